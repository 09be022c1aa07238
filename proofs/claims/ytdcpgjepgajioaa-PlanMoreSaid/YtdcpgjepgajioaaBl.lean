/- Rows of numbers that Left makes; the errors of Left. No conditions beyond each theorem's own. -/
import Derived.Test.YtdcpgjepgajioaaBk
set_option linter.unusedVariables false
set_option linter.unusedSimpArgs false
set_option linter.unusedSectionVars false
set_option linter.constructorNameAsVariable false
namespace Go.Proofs.Ytdcpgjepgajioaa
open Go.RowKit

attribute [local go_sem] gw_cell gw_frozen gw_size

/-- how many of the first errors are none -/
def upto (f : Nat → Int) : Nat → Nat
  | 0 => 0
  | k + 1 => if upto f k = k ∧ f k = 0 then k + 1 else upto f k
theorem upto_le (f : Nat → Int) : ∀ n, upto f n ≤ n
  | 0 => Nat.le_refl _
  | k + 1 => by unfold upto; have := upto_le f k; split <;> omega
theorem upto_zero (f : Nat → Int) : ∀ n t, t < upto f n → f t = 0
  | 0, t, h => by simp [upto] at h
  | k + 1, t, h => by
    unfold upto at h
    split at h
    · rename_i hc
      by_cases e : t = k
      · rw [e]; exact hc.2
      · exact upto_zero f k t (by rw [hc.1]; omega)
    · exact upto_zero f k t h
theorem upto_stop (f : Nat → Int) : ∀ n, upto f n < n → f (upto f n) ≠ 0
  | 0, h => by simp at h
  | k + 1, h => by
    unfold upto at h ⊢
    split
    · rename_i hc; simp only [hc, and_self, if_true] at h; omega
    · rename_i hc
      simp only [hc, if_false] at h
      by_cases e : upto f k = k
      · rw [e]; exact fun hx => hc ⟨e, hx⟩
      · exact upto_stop f k (by have := upto_le f k; omega)
theorem upto_unique {f : Nat → Int} {n i : Nat} (hi : i ≤ n) (h1 : ∀ t, t < i → f t = 0) (h2 : i < n → f i ≠ 0) : i = upto f n := by
  have a := upto_le f n
  rcases Nat.lt_trichotomy i (upto f n) with h | h | h
  · exact absurd (upto_zero f n i h) (h2 (by omega))
  · exact h
  · exact absurd (h1 _ h) (upto_stop f n (by omega))
/-- an error of lots: 1 or none -/
def argE (o : Otl) (y : Lyg) (m : Nat) (L : Nat → Int) : Int := if outB o = true ∧ layB o y = true ∧ lotsB y m L = true then 0 else 1
def anyRoom : Int → Bool := fun _ => true
/-- the errors of a path's years, with the least part, whatever room -/
def Otl.errLo (o : Otl) (y : Lyg) (i : Nat) (L : Nat → Int) (t : Nat) : Int := (o.yrAt i L y.lot anyRoom (parLo o) t).2
/-- the rows of Left -/
def Otl.leftRow (o : Otl) (y : Lyg) (i : Nat) (L : Nat → Int) (t : Nat) : List Int := (o.yrAt i L y.lot anyRoom (parLo o) t).1
def leftE (o : Otl) (y : Lyg) (m : Nat) (L : Nat → Int) (path : Int) : Int :=
  if argE o y m L = 1 then 1 else if inB path 0 (o.nP - 1) = true then (if upto (o.errLo y path.toNat L) m = m then 0 else o.errLo y path.toNat L (upto (o.errLo y path.toNat L) m)) else 2
def leftY (o : Otl) (y : Lyg) (m : Nat) (L : Nat → Int) (path : Int) : Nat :=
  if argE o y m L = 1 then 0 else if inB path 0 (o.nP - 1) = true then upto (o.errLo y path.toNat L) m else 0
/-- a list of rows of 32 numbers -/
def RowsOf (w : World) (a : Option Addr) (k : Nat) (M : Nat → List Int) : Prop := ∃ (rA : Nat → Option Addr) (rC : Nat → Nat), CellsAt w a k (fun t => .slice (rA t) 32 (rC t)) ∧ ∀ t, t < k → IntsAt w (rA t) 32 (fun j => (M t).getD j 0)
theorem RowsOf.below {w w' : World} {a : Option Addr} {k : Nat} {M : Nat → List Int} (h : RowsOf w a k M) (hb : Below w.heap.size w w') : RowsOf w' a k M := by
  obtain ⟨rA, rC, h1, h2⟩ := h
  exact ⟨rA, rC, h1.below hb, fun t ht => (h2 t ht).below hb⟩
/-- what Left hands back -/
def LeftEnd (o : Otl) (y : Lyg) (m : Nat) (L : Nat → Int) (path : Int) (w : World) (e : Ending) (w' : World) : Prop :=
  ∃ a c, e = .returned (.tuple #[.slice a (if leftE o y m L path = 0 then m else 0) c, .int .i64 (leftY o y m L path), .int .i64 (leftE o y m L path)]) ∧ RowsOf w' a (if leftE o y m L path = 0 then m else 0) (o.leftRow y path.toNat L) ∧ Below w.heap.size w w'
def rowsV (k : Nat) (rA : Nat → Option Addr) (rC : Nat → Nat) : List Value := (List.range k).map fun t => .slice (rA t) 32 (rC t)
theorem rowsV_len (k : Nat) (rA : Nat → Option Addr) (rC : Nat → Nat) : (rowsV k rA rC).length = k * 1 := by simp [rowsV]
/-- rows under way, in a world in which block K belongs to someone else -/
def LRows (V : World) (base K : Nat) (a : Option Addr) (j c : Nat) (M : Nat → List Int) : Prop :=
  ∃ (rA : Nat → Option Addr) (rC : Nat → Nat), V.ownsRow base 22 1 (.slice a j c) j (rowsV j rA rC) ∧ (∀ b, (Value.slice a j c).ownBlock = some b → b ≠ K) ∧
    ∀ t, t < j → ∃ g, rA t = some ⟨g, 0, none⟩ ∧ base ≤ g ∧ g < V.heap.size ∧ g ≠ K ∧ some g ≠ (Value.slice a j c).ownBlock ∧ ∀ i, i < 32 → V.cell? ⟨g, i, none⟩ = some (.int .i64 ((M t).getD i 0))
theorem LRows.kept {V V' : World} {base K j c : Nat} {a : Option Addr} {M : Nat → List Int} {r : Option Nat} (h : LRows V base K a j c M) (g : V.grownBy V' r) (hr : ∀ b, r = some b → b = K ∨ b < base) : LRows V' base K a j c M := by
  obtain ⟨rA, rC, h1, h2, h3⟩ := h
  refine ⟨rA, rC, h1.kept g ?_, h2, fun t ht => ?_⟩
  · cases hr0 : (Value.slice a j c).ownBlock with
    | none => exact .inl rfl
    | some b =>
      refine .inr (fun e => ?_)
      rcases hr b e.symm with e1 | e1
      · exact h2 b hr0 e1
      · have := (h1.lt b hr0).1; omega
  · obtain ⟨gg, e1, e2, e3, e4, e5, e6⟩ := h3 t ht
    have hb := g.block gg e3 (fun e => by rcases hr gg e.symm with e7 | e7 <;> omega)
    exact ⟨gg, e1, e2, Nat.lt_of_lt_of_le e3 g.size, e4, e5, fun i hi => (World.cell?_of_block (a := ⟨gg, i, none⟩) hb).trans (e6 i hi)⟩
theorem LRows.out {V : World} {base K j c : Nat} {a : Option Addr} {M : Nat → List Int} (h : LRows V base K a j c M) : RowsOf V a j M := by
  obtain ⟨rA, rC, h1, h2, h3⟩ := h
  refine ⟨rA, rC, ?_, fun t ht => ?_⟩
  · rcases h1.2 with ⟨hv, h0⟩ | ⟨g, cap, cur, hv, _, hg, _⟩
    · exact .inl h0
    · simp only [Value.slice.injEq] at hv
      obtain ⟨rfl, _, rfl⟩ := hv
      refine .inr ⟨g, 0, rfl, (Array.getElem?_eq_some_iff.1 hg).1, fun i hi => ?_⟩
      have := h1.cells (g := g) rfl i (.slice (rA i) 32 (rC i)) (by simp [rowsV, hi])
      rw [addr_add] at this
      exact this
  · obtain ⟨g, e1, _, e3, _, _, e6⟩ := h3 t ht
    rw [e1]
    exact .inr ⟨g, 0, rfl, e3, fun i hi => by rw [Nat.zero_add]; exact e6 i hi⟩
theorem LRows.nil (V : World) (base K : Nat) (M : Nat → List Int) : LRows V base K none 0 0 M := ⟨fun _ => none, fun _ => 0, World.ownsRow_nil _ _ _ _, fun b hb => (by cases hb), fun t ht => by omega⟩
/-- a row more -/
theorem LRows.push {V V1 V2 : World} {base K j c a' c' : Nat} {a : Option Addr} {v9 : Value} {M : Nat → List Int} {rA : Nat → Option Addr} {rC : Nat → Nat} (h1 : V.ownsRow base 22 1 (.slice a j c) j (rowsV j rA rC)) (h2 : ∀ b, (Value.slice a j c).ownBlock = some b → b ≠ K)
    (h3 : ∀ t, t < j → ∃ g, rA t = some ⟨g, 0, none⟩ ∧ base ≤ g ∧ g < V.heap.size ∧ g ≠ K ∧ some g ≠ (Value.slice a j c).ownBlock ∧ ∀ i, i < 32 → V.cell? ⟨g, i, none⟩ = some (.int .i64 ((M t).getD i 0)))
    {l : Nat} (hl : l < base) (hb : V.grownBy V1 (some l)) (hK : K < V.heap.size) (hbase : base ≤ V.heap.size) (ha : V.heap.size ≤ a' ∧ a' < V1.heap.size) (hc : ∀ i, i < 32 → V1.cell? ⟨a', i, none⟩ = some (.int .i64 ((M j).getD i 0)))
    (hg : V1.grownBy V2 (Value.slice a j c).ownBlock) (h9 : V2.ownsRow base 22 1 v9 (j + 1) (rowsV j rA rC ++ [.slice (some ⟨a', 0, none⟩) 32 c'])) (hat : v9.ownBlock = (Value.slice a j c).ownBlock ∨ ∃ b, v9.ownBlock = some b ∧ V1.heap.size ≤ b) :
    ∃ a9 c9, v9 = .slice a9 (j + 1) c9 ∧ LRows V2 base K a9 (j + 1) c9 M := by
  obtain ⟨a9, c9, rfl⟩ := own_form h9
  refine ⟨a9, c9, rfl, fun t => if t < j then rA t else some ⟨a', 0, none⟩, fun t => if t < j then rC t else c', ?_, ?_, ?_⟩
  · have e : rowsV (j + 1) (fun t => if t < j then rA t else some ⟨a', 0, none⟩) (fun t => if t < j then rC t else c') = rowsV j rA rC ++ [.slice (some ⟨a', 0, none⟩) 32 c'] := by
      unfold rowsV
      rw [List.range_succ, List.map_append]
      congr 1
      · exact List.map_congr_left (fun t ht => by simp [List.mem_range.1 ht])
      · simp
    rw [e]; exact h9
  · intro b hb9
    rcases hat with e | ⟨b', e, e2⟩
    · exact h2 b (e ▸ hb9)
    · rw [e] at hb9; cases hb9; have := hb.size; omega
  · intro t ht
    have nb : ∀ g, g < V1.heap.size → some g ≠ (Value.slice a j c).ownBlock → some g ≠ (Value.slice a9 (j + 1) c9).ownBlock := fun g hg1 hg2 => by
      rcases hat with e | ⟨b', e, e2⟩
      · rw [e]; exact hg2
      · rw [e]; intro h; cases h; omega
    by_cases htj : t < j
    · simp only [htj, if_true]
      obtain ⟨g, e1, e2, e3, e4, e5, e6⟩ := h3 t htj
      have hs := hb.size
      refine ⟨g, e1, e2, Nat.lt_of_lt_of_le (by omega) hg.size, e4, nb g (by omega) e5, fun i hi => ?_⟩
      exact (World.cell?_of_block (a := ⟨g, i, none⟩) (hg.block g (by omega) e5)).trans ((World.cell?_of_block (a := ⟨g, i, none⟩) (hb.block g e3 (fun e => by cases e; omega))).trans (e6 i hi))
    · obtain rfl : t = j := by omega
      simp only [Nat.lt_irrefl, if_false]
      have hne : some a' ≠ (Value.slice a t c).ownBlock := fun e => by have := (h1.lt a' e.symm).2; omega
      refine ⟨a', rfl, by omega, Nat.lt_of_lt_of_le ha.2 hg.size, by omega, nb a' ha.2 hne, fun i hi => ?_⟩
      exact (World.cell?_of_block (a := ⟨a', i, none⟩) (hg.block a' ha.2 hne)).trans (hc i hi)

set_option maxRecDepth 100000 in
set_option maxHeartbeats 4000000 in
theorem Left_arg (o : Otl) (y : Lyg) (aL : Option Addr) (m cL : Nat) (L : Nat → Int) (path : Int) (w : World) (hO : o.In w) (hfo : o.Fits) (hY : y.In w) (hfy : y.Fits) (hL : IntsAt w aL m L) (hm : m ≤ 9223372036854775807) (h : argE o y m L = 1) :
    Calls Try.prog 11 #[o.val, y.val, .slice aL m cL, .int .i64 path] w fun e w' => e = .returned (.tuple #[.slice none 0 0, .int .i64 0, .int .i64 1]) ∧ Below w.heap.size w w' := by
  unfold Otl.val Lyg.val
  obtain ⟨W1, hW1⟩ : ∃ W1, ((((w.alloc (.cells #[.slice o.aS o.nS o.cS, .int .i64 o.kl, .int .i64 o.kh, .slice o.aA o.nA o.cA, .slice o.aP o.nP o.cP] 27)).alloc (.cells #[.slice y.aR y.nR y.cR, .slice y.aM y.nM y.cM, .int .i64 y.lot, .int .i64 y.room] 29)).alloc (.cells #[.slice none 0 0] 32)).alloc (.cells #[.int .i64 0] 3)).alloc (.cells #[.int .i64 0] 33) = W1 := ⟨_, rfl⟩
  have hBc : Below w.heap.size w W1 := by rw [← hW1]; exact ((((below_alloc _ _).alloc (by simp) _).alloc (by simp <;> omega) _).alloc (by simp <;> omega) _).alloc (by simp <;> omega) _
  have zc0 : W1.heap[w.heap.size]? = some (.cells #[.slice o.aS o.nS o.cS, .int .i64 o.kl, .int .i64 o.kh, .slice o.aA o.nA o.cA, .slice o.aP o.nP o.cP] 27 (0, 0)) := by rw [← hW1]; exact alloc_keep (alloc_keep (alloc_keep (alloc_keep (alloc_at rfl))))
  have zc1 : W1.heap[w.heap.size + 1]? = some (.cells #[.slice y.aR y.nR y.cR, .slice y.aM y.nM y.cM, .int .i64 y.lot, .int .i64 y.room] 29 (0, 0)) := by rw [← hW1]; exact alloc_keep (alloc_keep (alloc_keep (alloc_at (by simp))))
  have zc2 : W1.heap[w.heap.size + 1 + 1]? = some (.cells #[.slice none 0 0] 32 (0, 0)) := by rw [← hW1]; exact alloc_keep (alloc_keep (alloc_at (by simp <;> omega)))
  have zc3 : W1.heap[w.heap.size + 1 + 1 + 1]? = some (.cells #[.int .i64 0] 3 (0, 0)) := by rw [← hW1]; exact alloc_keep (alloc_at (by simp <;> omega))
  have zc4 : W1.heap[w.heap.size + 1 + 1 + 1 + 1]? = some (.cells #[.int .i64 0] 33 (0, 0)) := by rw [← hW1]; exact alloc_at (by simp <;> omega)
  have c00 : W1.cell? ⟨w.heap.size, 0, none⟩ = some (.slice o.aS o.nS o.cS) := cell_of_block zc0 0 (by simp)
  have c01 : W1.cell? ⟨w.heap.size, 1, none⟩ = some (.int .i64 o.kl) := cell_of_block zc0 1 (by simp)
  have c02 : W1.cell? ⟨w.heap.size, 2, none⟩ = some (.int .i64 o.kh) := cell_of_block zc0 2 (by simp)
  have c03 : W1.cell? ⟨w.heap.size, 3, none⟩ = some (.slice o.aA o.nA o.cA) := cell_of_block zc0 3 (by simp)
  have c04 : W1.cell? ⟨w.heap.size, 4, none⟩ = some (.slice o.aP o.nP o.cP) := cell_of_block zc0 4 (by simp)
  have c10 : W1.cell? ⟨w.heap.size + 1, 0, none⟩ = some (.slice y.aR y.nR y.cR) := cell_of_block zc1 0 (by simp)
  have c11 : W1.cell? ⟨w.heap.size + 1, 1, none⟩ = some (.slice y.aM y.nM y.cM) := cell_of_block zc1 1 (by simp)
  have c12 : W1.cell? ⟨w.heap.size + 1, 2, none⟩ = some (.int .i64 y.lot) := cell_of_block zc1 2 (by simp)
  have c13 : W1.cell? ⟨w.heap.size + 1, 3, none⟩ = some (.int .i64 y.room) := cell_of_block zc1 3 (by simp)
  have c20 : W1.cell? ⟨w.heap.size + 1 + 1, 0, none⟩ = some (.slice none 0 0) := cell_of_block zc2 0 (by simp)
  have c30 : W1.cell? ⟨w.heap.size + 1 + 1 + 1, 0, none⟩ = some (.int .i64 0) := cell_of_block zc3 0 (by simp)
  have c40 : W1.cell? ⟨w.heap.size + 1 + 1 + 1 + 1, 0, none⟩ = some (.int .i64 0) := cell_of_block zc4 0 (by simp)
  have lc0 := (Array.getElem?_eq_some_iff.1 zc0).1
  have lc1 := (Array.getElem?_eq_some_iff.1 zc1).1
  have lc2 := (Array.getElem?_eq_some_iff.1 zc2).1
  have lc3 := (Array.getElem?_eq_some_iff.1 zc3).1
  have lc4 := (Array.getElem?_eq_some_iff.1 zc4).1
  have fc20 := frozen_of_block zc2 0
  have fc30 := frozen_of_block zc3 0
  have fc40 := frozen_of_block zc4 0
  clear zc0 zc1 zc2 zc3 zc4
  have HBc := Lib.hid hBc; clear hBc
  have HWc := Lib.hid hW1; clear hW1
  have HO := Lib.hid (hO.below HBc.out)
  have HY := Lib.hid (hY.below HBc.out)
  have HL := Lib.hid (hL.below HBc.out)
  have OL' := Lib.hid (fun W (hb : Below W1.heap.size W1 W) => isOutlook_any o W (HO.out.below hb) hfo)
  have HF := Lib.hid hfo
  have HFY := Lib.hid hfy
  clear hO hY hL hfo hfy
  unfold Otl.val at OL'
  cases e1 : outB o
  · have E1 := Lib.hid e1; clear e1
    rw [E1.out] at OL'
    go_enter Try.func11, Try.ntmps11
    go_upto_region 1 with (fail)
    rw [HWc.out]
    go_wp2_with fail
    refine (Calls.grown (OL'.out W1 (Below.refl _ _))).mono ?_
    rintro e w1 ⟨rfl, z1, rfl⟩
    go_wp2_with fail
    refine bodyPost_ret (v := .tuple #[.slice none 0 0, .int .i64 0, .int .i64 1]) (by simp [results, Try.results11, go_sem, *]) rfl ⟨rfl, ?_⟩
    exact (((HBc.out.gw z1).setCell (by simp <;> omega) _).setCell (by simp <;> omega) _).setCell (by simp <;> omega) _
  have E1 := Lib.hid e1; clear e1
  rw [E1.out] at OL'
  have LY' := Lib.hid (fun W (hb : Below W1.heap.size W1 W) => isLaying_any o y W (HO.out.below hb) (by have := outB_t E1.out; omega) (HF.out.pN 0 (by have := outB_t E1.out; omega)) (HY.out.below hb) HFY.out)
  unfold Otl.val Lyg.val at LY'
  cases e2 : layB o y
  · have E2 := Lib.hid e2; clear e2
    rw [E2.out] at LY'
    go_enter Try.func11, Try.ntmps11
    go_upto_region 1 with (fail)
    rw [HWc.out]
    go_wp2_with fail
    refine (Calls.grown (OL'.out W1 (Below.refl _ _))).mono ?_
    rintro e w1 ⟨rfl, z1, rfl⟩
    go_wp2_with fail
    refine (Calls.gw_of (LY'.out _ (below_gw W1 z1))).mono ?_
    rintro e w1 ⟨rfl, z2, rfl⟩
    go_wp2_with fail
    refine bodyPost_ret (v := .tuple #[.slice none 0 0, .int .i64 0, .int .i64 1]) (by simp [results, Try.results11, go_sem, *]) rfl ⟨rfl, ?_⟩
    exact (((HBc.out.gw z2).setCell (by simp <;> omega) _).setCell (by simp <;> omega) _).setCell (by simp <;> omega) _
  have E2 := Lib.hid e2; clear e2
  rw [E2.out] at LY'
  have LT' := Lib.hid (fun W (hb : Below W1.heap.size W1 W) => areLots_any y aL m cL L W (HY.out.below hb) HFY.out (HL.out.below hb) hm)
  unfold Lyg.val at LT'
  cases e3 : lotsB y m L
  · have E3 := Lib.hid e3; clear e3
    rw [E3.out] at LT'
    go_enter Try.func11, Try.ntmps11
    go_upto_region 1 with (fail)
    rw [HWc.out]
    go_wp2_with fail
    refine (Calls.grown (OL'.out W1 (Below.refl _ _))).mono ?_
    rintro e w1 ⟨rfl, z1, rfl⟩
    go_wp2_with fail
    refine (Calls.gw_of (LY'.out _ (below_gw W1 z1))).mono ?_
    rintro e w1 ⟨rfl, z2, rfl⟩
    go_wp2_with fail
    refine (Calls.gw_of (LT'.out _ (below_gw W1 z2))).mono ?_
    rintro e w1 ⟨rfl, z3, rfl⟩
    go_wp2_with fail
    refine bodyPost_ret (v := .tuple #[.slice none 0 0, .int .i64 0, .int .i64 1]) (by simp [results, Try.results11, go_sem, *]) rfl ⟨rfl, ?_⟩
    exact (((HBc.out.gw z3).setCell (by simp <;> omega) _).setCell (by simp <;> omega) _).setCell (by simp <;> omega) _
  have E3 := Lib.hid e3; clear e3
  rw [E3.out] at LT'
  unfold argE at h
  rw [if_pos ⟨E1.out, E2.out, E3.out⟩] at h
  cases h
end Go.Proofs.Ytdcpgjepgajioaa
