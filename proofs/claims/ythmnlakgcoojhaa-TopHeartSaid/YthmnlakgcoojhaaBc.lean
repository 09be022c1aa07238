/- Contracts of plus, times, part, of the program and of the reference. No conditions beyond each theorem's own. -/
import Derived.Test.YthmnlakgcoojhaaBb
import Derived.Test.YthmnlakgcoojhaaAg
set_option linter.unusedVariables false
set_option linter.unusedSimpArgs false
set_option linter.unusedSectionVars false
set_option linter.constructorNameAsVariable false
namespace Go.Proofs.Ythmnlakgcoojhaa
open Go.RowKit

attribute [local go_sem] gw_cell gw_frozen gw_size

set_option maxHeartbeats 2000000 in
theorem times_any (alo ahi tlo thi num den : Int) (w : World) (a0 : 0 ≤ alo * tlo) (a1 : alo * tlo ≤ 4000000000000000000) (a2 : 0 ≤ alo * tlo * num) (a3 : alo * tlo * num ≤ 4000000000000000000) (b0 : 0 ≤ ahi * thi) (b1 : ahi * thi ≤ 4000000000000000000) (b2 : 0 ≤ ahi * thi * num) (b3 : ahi * thi * num ≤ 4000000000000000000) (hd : 1 ≤ den) :
    Calls Try.prog 32 #[.agg #[.int .i64 alo, .int .i64 ahi], .agg #[.int .i64 tlo, .int .i64 thi], .int .i64 num, .int .i64 den] w fun e w' => e = .returned (.agg #[.int .i64 (alo * tlo * num / den), .int .i64 (upI (ahi * thi * num) den)]) ∧ Below w.heap.size w w' := by
  have FL := Lib.hid (fun w => floor_any (alo * tlo * num) den w (by omega) a3 hd)
  have CE := Lib.hid (fun w => ceil_any (ahi * thi * num) den w (by omega) b3 hd)
  go_enter Try.func32, Try.ntmps32
  go_wp2
  refine wp_region_gw_tail 19 (by kernel_rfl) (by kernel_rfl) ?_
  simp only [List.take_succ_cons, List.take_zero]
  repeat (go_big_quiet_step (first | (go_at_call 46; exact Calls.gw_of_same (FL.out _)) | (go_at_call 47; exact Calls.gw_of_same (CE.out _))))
  refine wpQuiet_nil ?_
  rintro _ ⟨x, rfl⟩
  simp only [List.drop_succ_cons, List.drop_zero]
  go_wp2
  refine bodyPost_ret (v := .agg #[.int .i64 (alo * tlo * num / den), .int .i64 (upI (ahi * thi * num) den)]) (by simp [results, Try.results32, go_sem]) rfl ⟨rfl, ?_⟩
  exact (((((((Below.refl _ w).alloc (Nat.le_refl _) _).alloc (by simp) _).alloc (by simp; omega) _).gw x).setCell (by simp <;> omega) _).setCell (by simp <;> omega) _)

set_option maxHeartbeats 1000000 in
theorem part_any (alo ahi tlo thi : Int) (w : World) (a0 : 0 ≤ alo * tlo) (a1 : alo * tlo ≤ 4000000000000000000) (b0 : 0 ≤ ahi * thi) (b1 : ahi * thi ≤ 4000000000000000000) :
    Calls Try.prog 30 #[.agg #[.int .i64 alo, .int .i64 ahi], .agg #[.int .i64 tlo, .int .i64 thi]] w fun e w' => e = .returned (.agg #[.int .i64 (alo * tlo / 1000), .int .i64 (upI (ahi * thi) 1000)]) ∧ Below w.heap.size w w' := by
  have T := fun w => times_any alo ahi tlo thi 1 1000 w a0 a1 (by rw [Int.mul_one]; exact a0) (by rw [Int.mul_one]; exact a1) b0 b1 (by rw [Int.mul_one]; exact b0) (by rw [Int.mul_one]; exact b1) (by omega)
  rw [Int.mul_one, Int.mul_one] at T
  have TT := Lib.hid T; clear T
  go_enter Try.func30, Try.ntmps30
  go_wp2_with fail
  refine (Calls.grown (TT.out _)).mono ?_
  rintro e w1 ⟨rfl, z, rfl⟩
  go_wp2_with fail
  refine bodyPost_ret (v := .agg #[.int .i64 (alo * tlo / 1000), .int .i64 (upI (ahi * thi) 1000)]) (by simp [results, Try.results30, go_sem]) rfl ⟨rfl, ?_⟩
  exact (((((((Below.refl _ w).alloc (Nat.le_refl _) _).alloc (by simp) _).alloc (by simp; omega) _).gw z).setCell (by simp <;> omega) _).setCell (by simp <;> omega) _)

end Go.Proofs.Ythmnlakgcoojhaa
