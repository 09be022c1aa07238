/- Plain laws of columns: again and again through a curve; what a column's statement stands on. No conditions. -/
import Derived.Test.YtnmldophadanbaaGg
set_option linter.unusedVariables false
set_option linter.unusedSimpArgs false
set_option linter.unusedSectionVars false
set_option linter.constructorNameAsVariable false
namespace Go.Proofs.Ytnmldophadanbaa
open Go.RowKit

theorem seq_hi_mono {n : Nat} {L A B : Nat → Int} (g : Good n L A B) {s s' : Int} (h0 : 0 ≤ s) (hs : s ≤ s') (h1 : s' ≤ 10000) : ∀ j, seqI (fun x => vapHi L B n x) s j ≤ seqI (fun x => vapHi L B n x) s' j
  | 0 => hs
  | j + 1 => g.vapHi_mono (seqI_range (fun x hx => g.vapHi_range hx.1 hx.2) h0 (by omega) j).1 (seq_hi_mono g h0 hs h1 j) (seqI_range (fun x hx => g.vapHi_range hx.1 hx.2) (by omega) h1 j).2
theorem seq_lo_mono {n : Nat} {L A B : Nat → Int} (g : Good n L A B) {s s' : Int} (h0 : 0 ≤ s) (hs : s ≤ s') (h1 : s' ≤ 10000) : ∀ j, seqI (fun x => vapLo L A n x) s j ≤ seqI (fun x => vapLo L A n x) s' j
  | 0 => hs
  | j + 1 => g.vapLo_mono (seqI_range (fun x hx => g.vapLo_range hx.1 hx.2) h0 (by omega) j).1 (seq_lo_mono g h0 hs h1 j) (seqI_range (fun x hx => g.vapLo_range hx.1 hx.2) (by omega) h1 j).2
theorem seq_lo_hi {n : Nat} {L A B : Nat → Int} (g : Good n L A B) {s : Int} (h0 : 0 ≤ s) (h1 : s ≤ 10000) : ∀ j, seqI (fun x => vapLo L A n x) s j ≤ seqI (fun x => vapHi L B n x) s j
  | 0 => Int.le_refl _
  | j + 1 => by
    have a := seqI_range (f := fun x => vapLo L A n x) (fun x hx => g.vapLo_range hx.1 hx.2) h0 h1 j
    have b := seqI_range (f := fun x => vapHi L B n x) (fun x hx => g.vapHi_range hx.1 hx.2) h0 h1 j
    exact Int.le_trans (g.vapLo_mono a.1 (seq_lo_hi g h0 h1 j) b.2) (g.lo_le_hi b.1 b.2)
theorem seq_rise {f : Int → Int} {s : Int} (hf : ∀ x, 0 ≤ x ∧ x ≤ 10000 → 0 ≤ f x ∧ f x ≤ 10000) (hr : ∀ x, 0 ≤ x ∧ x ≤ 10000 → x ≤ f x) (h0 : 0 ≤ s) (h1 : s ≤ 10000) (i : Nat) : ∀ d, seqI f s i ≤ seqI f s (i + d)
  | 0 => Int.le_refl _
  | d + 1 => Int.le_trans (seq_rise hf hr h0 h1 i d) (hr _ (seqI_range hf h0 h1 (i + d)))

/-- a count, and where its sequence reaches t -/
structure Reach (q : Nat → Int) (t : Int) (P : Nat) : Prop where
  le : P ≤ 100
  lt : ∀ k, k < P → q k < t
  ge : ∀ k, P ≤ k → t ≤ q k
structure Never (q : Nat → Int) (t : Int) : Prop where
  lt : ∀ k, k < 101 → q k < t
theorem reach_or {q : Nat → Int} {t : Int} (hr : ∀ i d, q i ≤ q (i + d)) : (∃ P, CountIs q t (P : Nat) ∧ Reach q t P) ∨ (CountIs q t (-1) ∧ Never q t) := by
  rcases countI_cases q t with ⟨j, h1, h2, h3, h4⟩ | ⟨h1, h2⟩
  · refine .inl ⟨j, ⟨h2⟩, h1, h3, fun k hk => ?_⟩
    have := hr j (k - j)
    rw [show j + (k - j) = k by omega] at this
    omega
  · exact .inr ⟨⟨h1⟩, ⟨h2⟩⟩
theorem Reach.le_of {q q' : Nat → Int} {t : Int} {P P' : Nat} (h : Reach q t P) (h' : Reach q' t P') (hq : ∀ k, q k ≤ q' k) : P' ≤ P := by
  rcases Nat.lt_or_ge P P' with hl | hl
  · have a := h'.lt P hl
    have b := h.ge P (Nat.le_refl _)
    have := hq P
    omega
  · exact hl
theorem Never.not {q q' : Nat → Int} {t : Int} {P : Nat} (h : Never q' t) (h' : Reach q t P) (hq : ∀ k, q k ≤ q' k) : False := by
  have a := h'.ge P (Nat.le_refl _)
  have b := h.lt P (by have := h'.le; omega)
  have := hq P
  omega

/-- before plate k: the two ends, and something between -/
structure Col (ql qh : Nat → Int) (k : Nat) (l h x : Int) : Prop where
  lo : ql k = l
  hi : qh k = h
  l0 : 0 ≤ l
  lx : l ≤ x
  xh : x ≤ h
  h1 : h ≤ 10000

/-- what a world holds for the law -/
structure StW (w W : World) (aL aV aY : Option Addr) (n cL cV ny : Nat) (L A B Y : Nat → Int) : Prop where
  c0 : W.cell? ⟨w.heap.size, 0, none⟩ = some (.slice aL n cL)
  c1 : W.cell? ⟨w.heap.size, 1, none⟩ = some (.slice aV n cV)
  s0 : w.heap.size < W.heap.size
  ls : IntsAt W aL n L
  vs : SpansAt W aV n A B
  ys : NumsAt .u32 W aY ny Y
  low : Below w.heap.size w W
theorem StW.below {w W W' : World} {aL aV aY : Option Addr} {n cL cV ny : Nat} {L A B Y : Nat → Int} (h : StW w W aL aV aY n cL cV ny L A B Y) (hb : Below W.heap.size W W') : StW w W' aL aV aY n cL cV ny L A B Y :=
  ⟨(hb.cell (p := ⟨w.heap.size, 0, none⟩) h.s0).trans h.c0, (hb.cell (p := ⟨w.heap.size, 1, none⟩) h.s0).trans h.c1, Nat.lt_of_lt_of_le h.s0 hb.size, h.ls.below hb, h.vs.below hb, h.ys.below hb, thru hb h.low⟩

structure Box2 (W : World) (B : Nat) (x y : Int) : Prop where
  e0 : W.cell? ⟨B, 0, none⟩ = some (.int .i64 x)
  e1 : W.cell? ⟨B, 1, none⟩ = some (.int .i64 y)
  lt : B < W.heap.size
theorem Box2.below {W W' : World} {B : Nat} {x y : Int} (h : Box2 W B x y) (hb : Below W.heap.size W W') : Box2 W' B x y :=
  ⟨(hb.cell (p := ⟨B, 0, none⟩) h.lt).trans h.e0, (hb.cell (p := ⟨B, 1, none⟩) h.lt).trans h.e1, Nat.lt_of_lt_of_le h.lt hb.size⟩
theorem box2_of (W : World) (x y : Int) (t : TypeId) : Box2 (W.alloc (.cells #[.int .i64 x, .int .i64 y] t)) W.heap.size x y := ⟨by simp [go_sem], by simp [go_sem], by simp⟩
theorem nums_get {k : IntKind} {W : World} {a : Option Addr} {n : Nat} {M : Nat → Int} (h : NumsAt k W a n M) (hn : 0 < n) : ∃ b off, a = some ⟨b, off, none⟩ ∧ b < W.heap.size ∧ ∀ i, i < n → W.cell? ⟨b, off + i, none⟩ = some (.int k (M i)) := by
  rcases h with h | h
  · omega
  · exact h
theorem nums_cell {k : IntKind} {W : World} {b off n : Nat} {M : Nat → Int} (h : NumsAt k W (some ⟨b, off, none⟩) n M) (i : Nat) (hi : i < n) : b < W.heap.size ∧ W.cell? ⟨b, off + i, none⟩ = some (.int k (M i)) := by
  rcases h with h | ⟨b', off', e, hb, hc⟩
  · omega
  · cases e; exact ⟨hb, hc i hi⟩
theorem gw_stw {w W : World} {aL aV aY : Option Addr} {n cL cV ny : Nat} {L A B Y : Nat → Int} (h : StW w W aL aV aY n cL cV ny L A B Y) (x : Grew) : StW w (gw W x) aL aV aY n cL cV ny L A B Y := h.below (below_gw W x)
end Go.Proofs.Ytnmldophadanbaa
