/- Contracts of Strength, Check, Weak in one form each. No conditions beyond each theorem's own. -/
import Derived.Test.YtljofnmgddfljaaBu
import Derived.Test.YtljofnmgddfljaaBz
set_option linter.unusedVariables false
set_option linter.unusedSimpArgs false
set_option linter.unusedSectionVars false
set_option linter.constructorNameAsVariable false
namespace Go.Proofs.Ytljofnmgddfljaa
open Go.RowKit

attribute [local go_sem] gw_cell gw_frozen gw_size

def strV (x : Cont) : Int × Int := if contB x = true then (strLo x, strHi x) else (0, 0)
def strE (x : Cont) : Int := if contB x = true then 0 else 1
def chkE (C : Clim) : Int := if climB C = true then 0 else 1
def weakR (C : Clim) (x : Cont) (k : Nat) (F G : Nat → Int) (tu least : Int) : Int := if weakErr C x k F G tu least = 0 then weakV C x k F G (tu - x.day).toNat least else 0
def weakF (C : Clim) (x : Cont) (k : Nat) (F G : Nat → Int) (tu least : Int) : Int := if weakErr C x k F G tu least = 0 then weakE C x k F G (tu - x.day).toNat least else weakErr C x k F G tu least

set_option maxRecDepth 100000 in
set_option maxHeartbeats 1000000 in
theorem Strength_any (x : Cont) (w : World) :
    Calls Try.prog 33 #[x.val] w fun e w' => e = .returned (.tuple #[.agg #[.int .i64 (strV x).1, .int .i64 (strV x).2], .int .i64 (strE x)]) ∧ Below w.heap.size w w' := by
  cases hx : contB x with
  | true =>
    rw [show strV x = (strLo x, strHi x) from if_pos hx, show strE x = 0 from if_pos hx]
    dsimp only
    have SV := fun W => strength_any x W hx
    have HX := Lib.hid hx; clear hx
    have HS := Lib.hid SV; clear SV
    unfold Cont.val at HS ⊢
    obtain ⟨W1, hW1⟩ : ∃ W1, (w.alloc (.cells #[.int .i64 x.day, .int .i64 x.alo, .int .i64 x.ahi, .int .i64 x.wlo, .int .i64 x.whi] 28)).alloc (.cells #[.int .i64 0, .int .i64 0] 26) = W1 := ⟨_, rfl⟩
    have hBc : Below w.heap.size w W1 := by rw [← hW1]; exact (below_alloc _ _).alloc (by simp) _
    have zc0 : W1.heap[w.heap.size]? = some (.cells #[.int .i64 x.day, .int .i64 x.alo, .int .i64 x.ahi, .int .i64 x.wlo, .int .i64 x.whi] 28 (0, 0)) := by rw [← hW1]; exact alloc_keep (alloc_at rfl)
    have zc1 : W1.heap[w.heap.size + 1]? = some (.cells #[.int .i64 0, .int .i64 0] 26 (0, 0)) := by rw [← hW1]; exact alloc_at (by simp)
    have c00 : W1.cell? ⟨w.heap.size, 0, none⟩ = some (.int .i64 x.day) := cell_of_block zc0 0 (by simp)
    have c01 : W1.cell? ⟨w.heap.size, 1, none⟩ = some (.int .i64 x.alo) := cell_of_block zc0 1 (by simp)
    have c02 : W1.cell? ⟨w.heap.size, 2, none⟩ = some (.int .i64 x.ahi) := cell_of_block zc0 2 (by simp)
    have c03 : W1.cell? ⟨w.heap.size, 3, none⟩ = some (.int .i64 x.wlo) := cell_of_block zc0 3 (by simp)
    have c04 : W1.cell? ⟨w.heap.size, 4, none⟩ = some (.int .i64 x.whi) := cell_of_block zc0 4 (by simp)
    have c10 : W1.cell? ⟨w.heap.size + 1, 0, none⟩ = some (.int .i64 0) := cell_of_block zc1 0 (by simp)
    have c11 : W1.cell? ⟨w.heap.size + 1, 1, none⟩ = some (.int .i64 0) := cell_of_block zc1 1 (by simp)
    have lc0 := (Array.getElem?_eq_some_iff.1 zc0).1
    have lc1 := (Array.getElem?_eq_some_iff.1 zc1).1
    have fc10 := frozen_of_block zc1 0
    have fc11 := frozen_of_block zc1 1
    clear zc0 zc1
    have HBc := Lib.hid hBc; clear hBc
    have HWc := Lib.hid hW1; clear hW1
    generalize strLo x = A at *
    generalize strHi x = B at *
    go_enter Try.func33, Try.ntmps33
    go_wp2_with fail
    rw [HWc.out]
    go_wp2_with fail
    refine (Calls.grown (isContent_b x _ HX.out)).mono ?_
    rintro e w1 ⟨rfl, z1, rfl⟩
    go_wp2_with fail
    refine (Calls.gw_of (HS.out _)).mono ?_
    rintro e w1 ⟨rfl, z2, rfl⟩
    go_wp2_with fail
    refine bodyPost_ret (v := .tuple #[.agg #[.int .i64 A, .int .i64 B], .int .i64 0]) (by simp [results, Try.results33, go_sem, *]) rfl ⟨rfl, ?_⟩
    exact ((HBc.out.gw z2).setCell (by simp) _).setCell (by simp) _
  | false =>
    rw [show strV x = (0, 0) from if_neg (by rw [hx]; simp), show strE x = 1 from if_neg (by rw [hx]; simp)]
    dsimp only
    have HX := Lib.hid hx; clear hx
    unfold Cont.val
    obtain ⟨W1, hW1⟩ : ∃ W1, (w.alloc (.cells #[.int .i64 x.day, .int .i64 x.alo, .int .i64 x.ahi, .int .i64 x.wlo, .int .i64 x.whi] 28)).alloc (.cells #[.int .i64 0, .int .i64 0] 26) = W1 := ⟨_, rfl⟩
    have hBc : Below w.heap.size w W1 := by rw [← hW1]; exact (below_alloc _ _).alloc (by simp) _
    have zc0 : W1.heap[w.heap.size]? = some (.cells #[.int .i64 x.day, .int .i64 x.alo, .int .i64 x.ahi, .int .i64 x.wlo, .int .i64 x.whi] 28 (0, 0)) := by rw [← hW1]; exact alloc_keep (alloc_at rfl)
    have zc1 : W1.heap[w.heap.size + 1]? = some (.cells #[.int .i64 0, .int .i64 0] 26 (0, 0)) := by rw [← hW1]; exact alloc_at (by simp)
    have c00 : W1.cell? ⟨w.heap.size, 0, none⟩ = some (.int .i64 x.day) := cell_of_block zc0 0 (by simp)
    have c01 : W1.cell? ⟨w.heap.size, 1, none⟩ = some (.int .i64 x.alo) := cell_of_block zc0 1 (by simp)
    have c02 : W1.cell? ⟨w.heap.size, 2, none⟩ = some (.int .i64 x.ahi) := cell_of_block zc0 2 (by simp)
    have c03 : W1.cell? ⟨w.heap.size, 3, none⟩ = some (.int .i64 x.wlo) := cell_of_block zc0 3 (by simp)
    have c04 : W1.cell? ⟨w.heap.size, 4, none⟩ = some (.int .i64 x.whi) := cell_of_block zc0 4 (by simp)
    have c10 : W1.cell? ⟨w.heap.size + 1, 0, none⟩ = some (.int .i64 0) := cell_of_block zc1 0 (by simp)
    have c11 : W1.cell? ⟨w.heap.size + 1, 1, none⟩ = some (.int .i64 0) := cell_of_block zc1 1 (by simp)
    have lc0 := (Array.getElem?_eq_some_iff.1 zc0).1
    have lc1 := (Array.getElem?_eq_some_iff.1 zc1).1
    have fc10 := frozen_of_block zc1 0
    have fc11 := frozen_of_block zc1 1
    clear zc0 zc1
    have HBc := Lib.hid hBc; clear hBc
    have HWc := Lib.hid hW1; clear hW1
    go_enter Try.func33, Try.ntmps33
    go_wp2_with fail
    rw [HWc.out]
    go_wp2_with fail
    refine (Calls.grown (isContent_b x _ HX.out)).mono ?_
    rintro e w1 ⟨rfl, z1, rfl⟩
    go_wp2_with fail
    refine bodyPost_ret (v := .tuple #[.agg #[.int .i64 0, .int .i64 0], .int .i64 1]) (by simp [results, Try.results33, go_sem, *]) rfl ⟨rfl, ?_⟩
    exact ((HBc.out.gw z1).setCell (by simp) _).setCell (by simp) _

set_option maxRecDepth 100000 in
set_option maxHeartbeats 1000000 in
theorem rStrength_any (x : Cont) (w : World) :
    Calls Try.prog 37 #[x.val] w fun e w' => e = .returned (.tuple #[.agg #[.int .i64 (strV x).1, .int .i64 (strV x).2], .int .i64 (strE x)]) ∧ Below w.heap.size w w' := by
  cases hx : contB x with
  | true =>
    rw [show strV x = (strLo x, strHi x) from if_pos hx, show strE x = 0 from if_pos hx]
    dsimp only
    have SV := fun W => rstrength_any x W hx
    have HX := Lib.hid hx; clear hx
    have HS := Lib.hid SV; clear SV
    unfold Cont.val at HS ⊢
    obtain ⟨W1, hW1⟩ : ∃ W1, (w.alloc (.cells #[.int .i64 x.day, .int .i64 x.alo, .int .i64 x.ahi, .int .i64 x.wlo, .int .i64 x.whi] 28)).alloc (.cells #[.int .i64 0, .int .i64 0] 26) = W1 := ⟨_, rfl⟩
    have hBc : Below w.heap.size w W1 := by rw [← hW1]; exact (below_alloc _ _).alloc (by simp) _
    have zc0 : W1.heap[w.heap.size]? = some (.cells #[.int .i64 x.day, .int .i64 x.alo, .int .i64 x.ahi, .int .i64 x.wlo, .int .i64 x.whi] 28 (0, 0)) := by rw [← hW1]; exact alloc_keep (alloc_at rfl)
    have zc1 : W1.heap[w.heap.size + 1]? = some (.cells #[.int .i64 0, .int .i64 0] 26 (0, 0)) := by rw [← hW1]; exact alloc_at (by simp)
    have c00 : W1.cell? ⟨w.heap.size, 0, none⟩ = some (.int .i64 x.day) := cell_of_block zc0 0 (by simp)
    have c01 : W1.cell? ⟨w.heap.size, 1, none⟩ = some (.int .i64 x.alo) := cell_of_block zc0 1 (by simp)
    have c02 : W1.cell? ⟨w.heap.size, 2, none⟩ = some (.int .i64 x.ahi) := cell_of_block zc0 2 (by simp)
    have c03 : W1.cell? ⟨w.heap.size, 3, none⟩ = some (.int .i64 x.wlo) := cell_of_block zc0 3 (by simp)
    have c04 : W1.cell? ⟨w.heap.size, 4, none⟩ = some (.int .i64 x.whi) := cell_of_block zc0 4 (by simp)
    have c10 : W1.cell? ⟨w.heap.size + 1, 0, none⟩ = some (.int .i64 0) := cell_of_block zc1 0 (by simp)
    have c11 : W1.cell? ⟨w.heap.size + 1, 1, none⟩ = some (.int .i64 0) := cell_of_block zc1 1 (by simp)
    have lc0 := (Array.getElem?_eq_some_iff.1 zc0).1
    have lc1 := (Array.getElem?_eq_some_iff.1 zc1).1
    have fc10 := frozen_of_block zc1 0
    have fc11 := frozen_of_block zc1 1
    clear zc0 zc1
    have HBc := Lib.hid hBc; clear hBc
    have HWc := Lib.hid hW1; clear hW1
    generalize strLo x = A at *
    generalize strHi x = B at *
    go_enter Try.func37, Try.ntmps37
    go_wp2_with fail
    rw [HWc.out]
    go_wp2_with fail
    refine (Calls.grown (rContent_b x _ HX.out)).mono ?_
    rintro e w1 ⟨rfl, z1, rfl⟩
    go_wp2_with fail
    refine (Calls.gw_of (HS.out _)).mono ?_
    rintro e w1 ⟨rfl, z2, rfl⟩
    go_wp2_with fail
    refine bodyPost_ret (v := .tuple #[.agg #[.int .i64 A, .int .i64 B], .int .i64 0]) (by simp [results, Try.results37, go_sem, *]) rfl ⟨rfl, ?_⟩
    exact ((HBc.out.gw z2).setCell (by simp) _).setCell (by simp) _
  | false =>
    rw [show strV x = (0, 0) from if_neg (by rw [hx]; simp), show strE x = 1 from if_neg (by rw [hx]; simp)]
    dsimp only
    have HX := Lib.hid hx; clear hx
    unfold Cont.val
    obtain ⟨W1, hW1⟩ : ∃ W1, (w.alloc (.cells #[.int .i64 x.day, .int .i64 x.alo, .int .i64 x.ahi, .int .i64 x.wlo, .int .i64 x.whi] 28)).alloc (.cells #[.int .i64 0, .int .i64 0] 26) = W1 := ⟨_, rfl⟩
    have hBc : Below w.heap.size w W1 := by rw [← hW1]; exact (below_alloc _ _).alloc (by simp) _
    have zc0 : W1.heap[w.heap.size]? = some (.cells #[.int .i64 x.day, .int .i64 x.alo, .int .i64 x.ahi, .int .i64 x.wlo, .int .i64 x.whi] 28 (0, 0)) := by rw [← hW1]; exact alloc_keep (alloc_at rfl)
    have zc1 : W1.heap[w.heap.size + 1]? = some (.cells #[.int .i64 0, .int .i64 0] 26 (0, 0)) := by rw [← hW1]; exact alloc_at (by simp)
    have c00 : W1.cell? ⟨w.heap.size, 0, none⟩ = some (.int .i64 x.day) := cell_of_block zc0 0 (by simp)
    have c01 : W1.cell? ⟨w.heap.size, 1, none⟩ = some (.int .i64 x.alo) := cell_of_block zc0 1 (by simp)
    have c02 : W1.cell? ⟨w.heap.size, 2, none⟩ = some (.int .i64 x.ahi) := cell_of_block zc0 2 (by simp)
    have c03 : W1.cell? ⟨w.heap.size, 3, none⟩ = some (.int .i64 x.wlo) := cell_of_block zc0 3 (by simp)
    have c04 : W1.cell? ⟨w.heap.size, 4, none⟩ = some (.int .i64 x.whi) := cell_of_block zc0 4 (by simp)
    have c10 : W1.cell? ⟨w.heap.size + 1, 0, none⟩ = some (.int .i64 0) := cell_of_block zc1 0 (by simp)
    have c11 : W1.cell? ⟨w.heap.size + 1, 1, none⟩ = some (.int .i64 0) := cell_of_block zc1 1 (by simp)
    have lc0 := (Array.getElem?_eq_some_iff.1 zc0).1
    have lc1 := (Array.getElem?_eq_some_iff.1 zc1).1
    have fc10 := frozen_of_block zc1 0
    have fc11 := frozen_of_block zc1 1
    clear zc0 zc1
    have HBc := Lib.hid hBc; clear hBc
    have HWc := Lib.hid hW1; clear hW1
    go_enter Try.func37, Try.ntmps37
    go_wp2_with fail
    rw [HWc.out]
    go_wp2_with fail
    refine (Calls.grown (rContent_b x _ HX.out)).mono ?_
    rintro e w1 ⟨rfl, z1, rfl⟩
    go_wp2_with fail
    refine bodyPost_ret (v := .tuple #[.agg #[.int .i64 0, .int .i64 0], .int .i64 1]) (by simp [results, Try.results37, go_sem, *]) rfl ⟨rfl, ?_⟩
    exact ((HBc.out.gw z1).setCell (by simp) _).setCell (by simp) _

set_option maxHeartbeats 1000000 in
theorem Check_any (C : Clim) (w : World) (hC : C.In w) (hf : C.Fits) :
    Calls Try.prog 39 #[.agg #[.int .i64 C.days, .slice C.aA C.nA C.cA, .slice C.aW C.nW C.cW]] w fun e w' => e = .returned (.int .i64 (chkE C)) ∧ Below w.heap.size w w' := by
  obtain ⟨W1, hW1⟩ : ∃ W1, w.alloc (.cells #[.int .i64 C.days, .slice C.aA C.nA C.cA, .slice C.aW C.nW C.cW] 24) = W1 := ⟨_, rfl⟩
  have hBc : Below w.heap.size w W1 := by rw [← hW1]; exact below_alloc _ _
  have zc0 : W1.heap[w.heap.size]? = some (.cells #[.int .i64 C.days, .slice C.aA C.nA C.cA, .slice C.aW C.nW C.cW] 24 (0, 0)) := by rw [← hW1]; exact alloc_at rfl
  have c00 : W1.cell? ⟨w.heap.size, 0, none⟩ = some (.int .i64 C.days) := cell_of_block zc0 0 (by simp)
  have c01 : W1.cell? ⟨w.heap.size, 1, none⟩ = some (.slice C.aA C.nA C.cA) := cell_of_block zc0 1 (by simp)
  have c02 : W1.cell? ⟨w.heap.size, 2, none⟩ = some (.slice C.aW C.nW C.cW) := cell_of_block zc0 2 (by simp)
  have lc0 := (Array.getElem?_eq_some_iff.1 zc0).1
  clear zc0
  have HBc := Lib.hid hBc; clear hBc
  have HWc := Lib.hid hW1; clear hW1
  have HC := Lib.hid (hC.below HBc.out); clear hC
  cases h : climB C
  all_goals
    have EV := Lib.hid (show chkE C = _ from rfl)
    unfold chkE at EV
    rw [h] at EV
    have H1 := Lib.hid h; clear h
    go_enter Try.func39, Try.ntmps39
    go_wp2_with fail
    rw [HWc.out]
    go_wp2_with fail
    refine (Calls.grown (isClimate_b C _ HC.out hf H1.out)).mono ?_
    rintro e w1 ⟨rfl, z1, rfl⟩
    go_wp2_with fail
    go_ret
    exact ⟨by unfold chkE; rw [H1.out]; rfl, HBc.out.gw z1⟩
set_option maxHeartbeats 1000000 in
theorem rCheck_any (C : Clim) (w : World) (hC : C.In w) (hf : C.Fits) :
    Calls Try.prog 40 #[.agg #[.int .i64 C.days, .slice C.aA C.nA C.cA, .slice C.aW C.nW C.cW]] w fun e w' => e = .returned (.int .i64 (chkE C)) ∧ Below w.heap.size w w' := by
  obtain ⟨W1, hW1⟩ : ∃ W1, w.alloc (.cells #[.int .i64 C.days, .slice C.aA C.nA C.cA, .slice C.aW C.nW C.cW] 24) = W1 := ⟨_, rfl⟩
  have hBc : Below w.heap.size w W1 := by rw [← hW1]; exact below_alloc _ _
  have zc0 : W1.heap[w.heap.size]? = some (.cells #[.int .i64 C.days, .slice C.aA C.nA C.cA, .slice C.aW C.nW C.cW] 24 (0, 0)) := by rw [← hW1]; exact alloc_at rfl
  have c00 : W1.cell? ⟨w.heap.size, 0, none⟩ = some (.int .i64 C.days) := cell_of_block zc0 0 (by simp)
  have c01 : W1.cell? ⟨w.heap.size, 1, none⟩ = some (.slice C.aA C.nA C.cA) := cell_of_block zc0 1 (by simp)
  have c02 : W1.cell? ⟨w.heap.size, 2, none⟩ = some (.slice C.aW C.nW C.cW) := cell_of_block zc0 2 (by simp)
  have lc0 := (Array.getElem?_eq_some_iff.1 zc0).1
  clear zc0
  have HBc := Lib.hid hBc; clear hBc
  have HWc := Lib.hid hW1; clear hW1
  have HC := Lib.hid (hC.below HBc.out); clear hC
  cases h : climB C
  all_goals
    have EV := Lib.hid (show chkE C = _ from rfl)
    unfold chkE at EV
    rw [h] at EV
    have H1 := Lib.hid h; clear h
    go_enter Try.func40, Try.ntmps40
    go_wp2_with fail
    rw [HWc.out]
    go_wp2_with fail
    refine (Calls.grown (rClimate_b C _ HC.out hf H1.out)).mono ?_
    rintro e w1 ⟨rfl, z1, rfl⟩
    go_wp2_with fail
    go_ret
    exact ⟨by unfold chkE; rw [H1.out]; rfl, HBc.out.gw z1⟩
theorem Weak_any (C : Clim) (x : Cont) (aS : Option Addr) (k cS : Nat) (F G : Nat → Int) (tu least : Int) (w : World) (hC : C.In w) (hf : C.Fits) (hk : k ≤ 9223372036854775807) (hS : SpansAt w aS k F G) :
    Calls Try.prog 35 #[.agg #[.int .i64 C.days, .slice C.aA C.nA C.cA, .slice C.aW C.nW C.cW], x.val, .slice aS k cS, .int .i64 tu, .int .i64 least] w fun e w' => e = .returned (.tuple #[.int .i64 (weakR C x k F G tu least), .int .i64 (weakF C x k F G tu least)]) ∧ Below w.heap.size w w' := by
  by_cases h : weakErr C x k F G tu least = 0
  · rw [show weakR C x k F G tu least = _ from if_pos h, show weakF C x k F G tu least = _ from if_pos h]
    exact Weak_ok C x aS k cS F G tu least w hC hf hk hS h
  · rw [show weakR C x k F G tu least = _ from if_neg h, show weakF C x k F G tu least = _ from if_neg h]
    exact Weak_err C x aS k cS F G tu least w hC hf hk hS rfl h
theorem rWeak_any (C : Clim) (x : Cont) (aS : Option Addr) (k cS : Nat) (F G : Nat → Int) (tu least : Int) (w : World) (hC : C.In w) (hf : C.Fits) (hk : k ≤ 9223372036854775807) (hS : SpansAt w aS k F G) :
    Calls Try.prog 38 #[.agg #[.int .i64 C.days, .slice C.aA C.nA C.cA, .slice C.aW C.nW C.cW], x.val, .slice aS k cS, .int .i64 tu, .int .i64 least] w fun e w' => e = .returned (.tuple #[.int .i64 (weakR C x k F G tu least), .int .i64 (weakF C x k F G tu least)]) ∧ Below w.heap.size w w' := by
  by_cases h : weakErr C x k F G tu least = 0
  · rw [show weakR C x k F G tu least = _ from if_pos h, show weakF C x k F G tu least = _ from if_pos h]
    exact rWeak_ok C x aS k cS F G tu least w hC hf hk hS h
  · rw [show weakR C x k F G tu least = _ from if_neg h, show weakF C x k F G tu least = _ from if_neg h]
    exact rWeak_err C x aS k cS F G tu least w hC hf hk hS rfl h
end Go.Proofs.Ytljofnmgddfljaa
