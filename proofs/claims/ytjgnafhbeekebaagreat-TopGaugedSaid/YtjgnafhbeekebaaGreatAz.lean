/- The frame of a law: how its arguments read, and what is owed behind the call. How the arguments of a law read, over any program. No conditions beyond each theorem's own. -/
import Derived.Test.YtjgnafhbeekebaaGreatRows
import Derived.Test.YtjgnafhbeekebaaGreatAa
import Derived.WalkKit
import Derived.ProofKit
import Derived.Below
import Derived.Carry
import Derived.WideKeyArgs
import Derived.ChangeSame
import Derived.JoinedOf
import Derived.JoinedAt
import Derived.Handed
import Derived.ChangeSlices
import Derived.Deep.Slices
import Derived.OpenShut
set_option linter.unusedVariables false
set_option linter.unusedSimpArgs false
set_option linter.unusedSectionVars false
set_option linter.constructorNameAsVariable false
namespace Go.Proofs.YtjgnafhbeekebaaGreat
open Go.ChangeShapes Go.WideShapes Go.ChangeAt Go.RowKit Go.Deep

theorem own : ownKnob Tryz.prog.godebug = none := by kernel_rfl
theorem laidOut : laidOutB Tryz.prog = true := by kernel_rfl

section
variable {H : Type} {enc : TypeId × Value → H}

/-- below the heap's old size nothing has turned: all arguments read as they did -/
theorem args_again {W W' : World} {sp : Nat → Bool} (hb : Below W.heap.size W W') : ∀ {ts : List TypeId} {vs : List Value} {ds : List (DataW H)} {ps : List MemPlace}, (∀ t ∈ ts, Tryz.prog.readableRec t = true ∧ t < Tryz.prog.types.size) →
    DataW.TrodAll enc Tryz.prog W 0 (fun _ => true) true ts vs ds ps → (∀ p ∈ ps, p.block < W.heap.size) → (∀ p ∈ ps, sp p.block = true) → DataW.TrodAll enc Tryz.prog W' 0 sp true ts vs ds ps
  | [], [], [], _, _, h, _, _ => h
  | t :: ts, v :: vs, d :: ds, ps, ht, ⟨p, q, h1, h2, e⟩, hl, hs => by
    have hp : ∀ x ∈ p, x ∈ ps := fun x hx => by rw [e]; exact List.mem_append_left _ hx
    have hq : ∀ x ∈ q, x ∈ ps := fun x hx => by rw [e]; exact List.mem_append_right _ hx
    have h0 := ht t (List.mem_cons.2 (Or.inl rfl))
    exact ⟨p, q, WideElems.Trod_stays laidOut h0.1 h0.2 h1 (fun x hx => hb.same (hl x (hp x hx))) (fun x hx => hs x (hp x hx)),
      args_again hb (fun u hu => ht u (List.mem_cons.2 (Or.inr hu))) h2 (fun x hx => hl x (hq x hx)) (fun x hx => hs x (hq x hx)), e⟩

/-- behind a law that returned true and left all that was there -/
theorem law_post {f : Func} {s : ChangeSpec} {W W' : World} {args : Array Value} {ds gs : List (DataW H)} {before : List MemPlace}
    (hW : DataW.Whole enc Tryz.prog f.params.toList s.vars false W args.toList ds gs before) (hr : f.resultTypes = #[4]) (hv : s.vars = [])
    (ht : ∀ t ∈ f.params.toList, Tryz.prog.readableRec t = true ∧ t < Tryz.prog.types.size)
    (hfn : s.fn H ds = { results := [.lit (.bool true)], args := ds, vars := [] }) (hb : Below W.heap.size W W') : s.post enc Tryz.prog f false true false false W args (.bool true) W' := by
  have hW' := hW
  have hlt : ∀ p ∈ before, p.block < W.heap.size := fun p hp => hW.lt p hp
  obtain ⟨p, q, hA, hV, rfl, hz, hn⟩ := hW
  rw [hv] at hV
  obtain ⟨rfl, rfl⟩ := trodVars_none hV
  simp only [List.append_nil] at hlt hW' hz hn
  have hargs : ∀ sp : Nat → Bool, (∀ x ∈ p, sp x.block = true) → DataW.TrodAll enc Tryz.prog W' 0 sp true f.params.toList args.toList ds p := fun sp hs => args_again hb ht hA hlt hs
  have hold : ∀ x ∈ p, (fun b => decide (b < W.heap.size)) x.block = true := fun x hx => by simpa using hlt x hx
  have hres : ∀ (b : Nat) (sp : Nat → Bool) (hd : Bool), DataW.TrodAll enc Tryz.prog W' b sp hd f.resultTypes.toList ((Value.bool true).resultList f.resultTypes.size) [.lit (.bool true)] [] := fun b sp hd => by
    rw [hr]; exact trodAll_cons_mk (shut_bool Tryz.underlying4 _) trodAll_mk0
  have hvars : ∀ sp : Nat → Bool, DataW.TrodVars enc Tryz.prog W' sp s.vars [] [] := fun sp => by rw [hv]; rfl
  have e : s.fn H (ds ++ []) = { results := [.lit (.bool true)], args := ds, vars := [] } := by rw [List.append_nil]; exact hfn
  refine ⟨ds, [], p, [], p, [], hW', by rw [e]; exact hres _ _ _, by rw [e]; exact hargs _ hold, by rw [e]; exact hvars _, World.keptBut_mono (fun x hx => ⟨hx, Or.inr (by simpa using hx)⟩) (hb.frame (· ∈ p)), fun h => by cases h⟩

end
end Go.Proofs.YtjgnafhbeekebaaGreat

namespace Go.Proofs.YtjgnafhbeekebaaGreat
open Go.ChangeShapes Go.WideShapes Go.ChangeAt Go.RowKit Go.Deep

section
variable {H : Type} {enc : TypeId × Value → H} {P : Program}
/-! ### How arguments read -/
variable {w : World} {base : Nat} {spare : Nat → Bool} {held : Bool}

/-- numbers of a slice, of some kind -/
def NumsAt (k : IntKind) (w : World) (a : Option Addr) (n : Nat) (L : Nat → Int) : Prop :=
  n = 0 ∨ ∃ b off, a = some ⟨b, off, none⟩ ∧ b < w.heap.size ∧ ∀ i, i < n → w.cell? ⟨b, off + i, none⟩ = some (.int k (L i))
theorem NumsAt.below {k : IntKind} {w w' : World} {a : Option Addr} {n : Nat} {L : Nat → Int} (h : NumsAt k w a n L) (hb : Below w.heap.size w w') : NumsAt k w' a n L := by
  rcases h with h | ⟨b, off, rfl, hlt, hc⟩
  · exact .inl h
  · exact .inr ⟨b, off, rfl, Nat.lt_of_lt_of_le hlt hb.size, fun i hi => (hb.cell (p := ⟨b, off + i, none⟩) hlt).trans (hc i hi)⟩

/-- a number of 64 bits -/
def In64 (z : Int) : Prop := -9223372036854775808 ≤ z ∧ z ≤ 9223372036854775807
theorem in64_of {z : Int} (h : (Lit.int .i64 z).wf = true) : In64 z := by simpa [In64, Lit.wf, IntKind.min, IntKind.max, IntKind.signed, IntKind.bits] using h
theorem inU32_of {z : Int} (h : (Lit.int .u32 z).wf = true) : 0 ≤ z ∧ z ≤ 4294967295 := by simpa [Lit.wf, IntKind.min, IntKind.max, IntKind.signed, IntKind.bits] using h
theorem inU8_of {z : Int} (h : (Lit.int .u8 z).wf = true) : 0 ≤ z ∧ z ≤ 255 := by simpa [Lit.wf, IntKind.min, IntKind.max, IntKind.signed, IntKind.bits] using h

theorem rd_int {t : TypeId} {v : Value} {d : DataW H} {ps : List MemPlace} (ht : P.underlying t = some (.int .i64)) (hv : Value.okWide P w .any base t v) (h : DataW.Trod enc P w 0 spare held t v d ps) : ∃ z, v = .int .i64 z ∧ In64 z := by
  obtain ⟨z, rfl, _, _, hz⟩ := open_int ht hv h
  exact ⟨z, rfl, in64_of hz⟩
theorem rd_u32 {t : TypeId} {v : Value} {d : DataW H} {ps : List MemPlace} (ht : P.underlying t = some (.int .u32)) (hv : Value.okWide P w .any base t v) (h : DataW.Trod enc P w 0 spare held t v d ps) : ∃ z, v = .int .u32 z ∧ 0 ≤ z ∧ z ≤ 4294967295 := by
  obtain ⟨z, rfl, _, _, hz⟩ := open_int ht hv h
  exact ⟨z, rfl, inU32_of hz⟩
theorem rd_u8 {t : TypeId} {v : Value} {d : DataW H} {ps : List MemPlace} (ht : P.underlying t = some (.int .u8)) (hv : Value.okWide P w .any base t v) (h : DataW.Trod enc P w 0 spare held t v d ps) : ∃ z, v = .int .u8 z ∧ 0 ≤ z ∧ z ≤ 255 := by
  obtain ⟨z, rfl, _, _, hz⟩ := open_int ht hv h
  exact ⟨z, rfl, inU8_of hz⟩

theorem rd_span' {tI tS : TypeId} {f0 f1 : Field} (hI : P.underlying tI = some (.int .i64)) (kI : P.cellsOf tI = 1) (hS : P.underlying tS = some (.struct #[f0, f1])) (kS : P.cellsOf tS = 2) (hf0 : f0.type = tI ∧ f0.offset = 0) (hf1 : f1.type = tI ∧ f1.offset = 1) {n : Nat} {cs : List Value} {x : DataW H × List MemPlace} (h : DataW.trod enc P w 0 spare held n tS cs = some x) : ∃ lo hi, cs = [.int .i64 lo, .int .i64 hi] ∧ In64 lo ∧ In64 hi := by
  obtain ⟨xs, n', _, _, hl, hxl, hf⟩ := DataW.trod_struct hS h
  have hl2 : cs.length = 2 := hl.trans kS
  match cs, hl2, xs, hxl with
  | [c0, c1], _, [y0, y1], _ =>
    have h0 := hf 0 f0 rfl
    have h1 := hf 1 f1 rfl
    rw [hf0.1, hf0.2, kI] at h0
    rw [hf1.1, hf1.2, kI] at h1
    obtain ⟨lo, e0, _, w0⟩ := DataW.trod_int hI (h0 : _ = some y0)
    obtain ⟨hi, e1, _, w1⟩ := DataW.trod_int hI (h1 : _ = some y1)
    simp at e0 e1
    exact ⟨lo, hi, by rw [e0, e1], in64_of w0, in64_of w1⟩

theorem agg_of {t : TypeId} {fs : Array Field} {v : Value} (hs : P.underlying t = some (.struct fs)) (hv : Value.okWide P w .any base t v) : ∃ l : List Value, v = .agg l.toArray ∧ v.cells.toList = l := by
  obtain ⟨cs, rfl, _⟩ := okWide_struct hs hv
  exact ⟨cs.toList, by simp, by simp [Value.cells]⟩

theorem rd_span {tI tS : TypeId} {f0 f1 : Field} (hI : P.underlying tI = some (.int .i64)) (kI : P.cellsOf tI = 1) (hS : P.underlying tS = some (.struct #[f0, f1])) (kS : P.cellsOf tS = 2) (hf0 : f0.type = tI ∧ f0.offset = 0) (hf1 : f1.type = tI ∧ f1.offset = 1) {v : Value} {d : DataW H} {ps : List MemPlace} (hv : Value.okWide P w .any base tS v) (h : DataW.Trod enc P w 0 spare held tS v d ps) : ∃ lo hi, v = .agg #[.int .i64 lo, .int .i64 hi] ∧ In64 lo ∧ In64 hi := by
  obtain ⟨l, rfl, hl⟩ := agg_of hS hv
  obtain ⟨n, hn⟩ := h
  obtain ⟨lo, hi, e, h0, h1⟩ := rd_span' hI kI hS kS hf0 hf1 hn
  rw [hl] at e
  exact ⟨lo, hi, by rw [e], h0, h1⟩

theorem rd_nums' {t e : TypeId} {k : IntKind} {n : Nat} {v : Value} {x : DataW H × List MemPlace} (ht : P.underlying t = some (.slice e)) (he : P.underlying e = some (.int k)) (hc : P.cellsOf e = 1) (h : DataW.trod enc P w 0 spare held n t [v] = some x) :
    ∃ a n c L, v = .slice a n c ∧ n ≤ c ∧ c ≤ maxLen ∧ NumsAt k w a n L ∧ ∀ i, i < n → (Lit.int k (L i)).wf = true := by
  rcases open_ints ht he hc h with ⟨hcs, hx⟩ | ⟨a, len, cap, zs, hcs, _, hl, hm, hz, hx, hcell, hwz⟩
  · simp at hcs
    exact ⟨none, 0, 0, fun _ => 0, hcs, Nat.le_refl _, Nat.zero_le _, .inl rfl, fun i hi => by omega⟩
  · simp at hcs
    have hlz : len ≤ zs.length := by rw [hz]; split <;> omega
    refine ⟨some a, len, cap, fun i => zs.getD i 0, hcs, hl, hm, ?_, fun i hi => ?_⟩
    · by_cases h0 : len = 0
      · exact .inl h0
      · obtain ⟨b, off, spot⟩ := a
        have hs : spot = none := by simpa [Addr.add] using World.cell?_spot (hcell 0 (by omega))
        subst hs
        have c0 := hcell 0 (by omega)
        exact .inr ⟨b, off, rfl, by simpa [Addr.add] using World.block_lt_of_cell? w _ c0, fun i hi => by rw [← WideShapes.add_plain]; exact hcell i (by omega)⟩
    · refine hwz _ ?_
      show zs.getD i 0 ∈ zs
      rw [List.getD_eq_getElem?_getD, List.getElem?_eq_getElem (by omega)]
      exact List.getElem_mem _

theorem slice_cells {t e : TypeId} {v : Value} (ht : P.underlying t = some (.slice e)) (hv : Value.okWide P w .any base t v) : v.cells.toList = [v] := by
  obtain ⟨a, l, c, rfl⟩ := okWide_slice ht hv; rfl

theorem rd_nums {t e : TypeId} {k : IntKind} {v : Value} {d : DataW H} {ps : List MemPlace} (ht : P.underlying t = some (.slice e)) (he : P.underlying e = some (.int k)) (hc : P.cellsOf e = 1) (hv : Value.okWide P w .any base t v) (h : DataW.Trod enc P w 0 spare held t v d ps) :
    ∃ a n c L, v = .slice a n c ∧ n ≤ c ∧ c ≤ maxLen ∧ NumsAt k w a n L ∧ ∀ i, i < n → (Lit.int k (L i)).wf = true := by
  obtain ⟨n, hn⟩ := h
  rw [slice_cells ht hv] at hn
  exact rd_nums' ht he hc hn

theorem rd_spans' {tI tS tL : TypeId} {f0 f1 : Field} (hI : P.underlying tI = some (.int .i64)) (kI : P.cellsOf tI = 1) (hS : P.underlying tS = some (.struct #[f0, f1])) (kS : P.cellsOf tS = 2) (hf0 : f0.type = tI ∧ f0.offset = 0) (hf1 : f1.type = tI ∧ f1.offset = 1) (hL : P.underlying tL = some (.slice tS)) {n : Nat} {v : Value} {x : DataW H × List MemPlace} (h : DataW.trod enc P w 0 spare held n tL [v] = some x) :
    ∃ a n c A B, v = .slice a n c ∧ n ≤ c ∧ c ≤ maxLen ∧ SpansAt w a n A B ∧ ∀ i, i < n → In64 (A i) ∧ In64 (B i) := by
  rcases open_slice hL h with ⟨hcs, hx⟩ | ⟨a, len, cap, m, n', D, Pl, hcs, _, hl, hm, hmm, hx, hi⟩
  · simp at hcs
    exact ⟨none, 0, 0, fun _ => 0, fun _ => 0, hcs, Nat.le_refl _, Nat.zero_le _, .inl rfl, fun i hi => by omega⟩
  · simp at hcs
    have hlm : len ≤ m := by rw [hmm]; split <;> omega
    have each : ∀ i, ∃ q : Int × Int, i < m → w.cell? (a.add (i * 2)) = some (.int .i64 q.1) ∧ w.cell? ((a.add (i * 2)).add 1) = some (.int .i64 q.2) ∧ In64 q.1 ∧ In64 q.2 := fun i => by
      by_cases him : i < m
      · obtain ⟨cs, h1, h2⟩ := hi i him
        rw [kS] at h1
        obtain ⟨lo, hi', rfl, r0, r1⟩ := rd_span' hI kI hS kS hf0 hf1 h2
        have hc := (World.cells?_some h1).2.2
        have c0 := hc 0 (by omega)
        have c1 := hc 1 (by omega)
        exact ⟨(lo, hi'), fun _ => ⟨by simpa [Addr.add] using c0, by simpa using c1, r0, r1⟩⟩
      · exact ⟨(0, 0), fun h => absurd h him⟩
    obtain ⟨Q, hQ⟩ := Classical.axiomOfChoice each
    clear each
    refine ⟨some a, len, cap, fun i => (Q i).1, fun i => (Q i).2, hcs, hl, hm, ?_, fun i hi => (hQ i (by omega)).2.2⟩
    by_cases h0 : len = 0
    · exact .inl h0
    · have c0 := (hQ 0 (by omega)).1
      obtain ⟨b, off, spot⟩ := a
      have hs : spot = none := by simpa [Addr.add] using World.cell?_spot c0
      subst hs
      refine .inr ⟨b, off, rfl, by simpa [Addr.add] using World.block_lt_of_cell? w _ c0, fun i hi => ?_⟩
      obtain ⟨q0, q1, _⟩ := hQ i (by omega)
      rw [WideShapes.add_plain] at q0 q1
      rw [WideShapes.add_plain] at q1
      exact ⟨q0, q1⟩

end
theorem nums_get {k : IntKind} {W : World} {a : Option Addr} {n : Nat} {M : Nat → Int} (h : NumsAt k W a n M) (hn : 0 < n) : ∃ b off, a = some ⟨b, off, none⟩ ∧ b < W.heap.size ∧ ∀ i, i < n → W.cell? ⟨b, off + i, none⟩ = some (.int k (M i)) := by
  rcases h with h | h
  · omega
  · exact h
theorem nums_cell {k : IntKind} {W : World} {b off n : Nat} {M : Nat → Int} (h : NumsAt k W (some ⟨b, off, none⟩) n M) (i : Nat) (hi : i < n) : b < W.heap.size ∧ W.cell? ⟨b, off + i, none⟩ = some (.int k (M i)) := by
  rcases h with h | ⟨b', off', e, hb, hc⟩
  · omega
  · cases e; exact ⟨hb, hc i hi⟩
end Go.Proofs.YtjgnafhbeekebaaGreat
