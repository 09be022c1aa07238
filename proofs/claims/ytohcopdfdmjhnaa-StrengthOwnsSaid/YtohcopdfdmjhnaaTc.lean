/- Contract of sample. No conditions beyond each theorem's own. -/
import Derived.Test.YtohcopdfdmjhnaaSn
import Derived.Test.YtohcopdfdmjhnaaSq
import Derived.Test.YtohcopdfdmjhnaaAl
set_option linter.unusedVariables false
set_option linter.unusedSimpArgs false
set_option linter.unusedSectionVars false
set_option linter.constructorNameAsVariable false
namespace Go.Proofs.Ytohcopdfdmjhnaa.L1
open Go.RowKit
open Go.Proofs.Ytohcopdfdmjhnaa

attribute [local go_sem] gw_cell gw_frozen gw_size

/-- the sample's table, its slices behind block b -/
def sRows (b a0 a1 a2 : Nat) (M : List (List Int)) : Rows := ⟨some ⟨b, 0, none⟩, 3, 3, fun i => some ⟨[a0, a1, a2].getD i 0, 0, none⟩, fun _ => 3, fun _ => 3, fun i k => (M.getD i []).getD k 0⟩
def sampT (b : Nat) : Tab := ⟨some ⟨b + 1, 0, none⟩, 3, 3, fun i => [100, 200, 300].getD i 0, some ⟨b + 1 + 1, 0, none⟩, 3, 3, fun i => [0, 5000, 10000].getD i 0,
  sRows (b + 1 + 1 + 1 + 1 + 1 + 1) (b + 1 + 1 + 1) (b + 1 + 1 + 1 + 1) (b + 1 + 1 + 1 + 1 + 1) [[-100, 4600, 9700], [0, 5000, 10000], [200, 5500, 10200]], sRows (b + 1 + 1 + 1 + 1 + 1 + 1 + 1 + 1 + 1 + 1) (b + 1 + 1 + 1 + 1 + 1 + 1 + 1) (b + 1 + 1 + 1 + 1 + 1 + 1 + 1 + 1) (b + 1 + 1 + 1 + 1 + 1 + 1 + 1 + 1 + 1) [[999000, 992000, 990000], [1000000, 1000000, 1000000], [1002000, 1009000, 1012000]]⟩
theorem ints_three {w : World} {b : Nat} {x y z : Int} {t : TypeId} (h : w.heap[b]? = some (.cells #[.int .i64 x, .int .i64 y, .int .i64 z] t (0, 0))) {L : Nat → Int} (h0 : L 0 = x) (h1 : L 1 = y) (h2 : L 2 = z) : IntsAt w (some ⟨b, 0, none⟩) 3 L := by
  refine .inr ⟨b, 0, rfl, (Array.getElem?_eq_some_iff.1 h).1, fun i hi => ?_⟩
  match i, hi with
  | 0, _ => rw [h0]; exact cell_of_block h 0 (by simp)
  | 1, _ => rw [h1]; exact cell_of_block h 1 (by simp)
  | 2, _ => rw [h2]; exact cell_of_block h 2 (by simp)
theorem rows_three {w : World} {b a0 a1 a2 : Nat} {M : List (List Int)} {t : TypeId} (h : w.heap[b]? = some (.cells #[.slice (some ⟨a0, 0, none⟩) 3 3, .slice (some ⟨a1, 0, none⟩) 3 3, .slice (some ⟨a2, 0, none⟩) 3 3] t (0, 0)))
    (i0 : IntsAt w (some ⟨a0, 0, none⟩) 3 (fun k => (M.getD 0 []).getD k 0)) (i1 : IntsAt w (some ⟨a1, 0, none⟩) 3 (fun k => (M.getD 1 []).getD k 0)) (i2 : IntsAt w (some ⟨a2, 0, none⟩) 3 (fun k => (M.getD 2 []).getD k 0)) : (sRows b a0 a1 a2 M).In w := by
  refine ⟨.inr ⟨b, 0, rfl, (Array.getElem?_eq_some_iff.1 h).1, fun i hi => ?_⟩, fun i hi => ?_⟩
  · match i, (show i < 3 from hi) with
    | 0, _ => exact cell_of_block h 0 (by simp)
    | 1, _ => exact cell_of_block h 1 (by simp)
    | 2, _ => exact cell_of_block h 2 (by simp)
  · match i, (show i < 3 from hi) with
    | 0, _ => exact i0
    | 1, _ => exact i1
    | 2, _ => exact i2
theorem samp_fits (b : Nat) : (sampT b).Fits := ⟨by show 3 ≤ _; omega, by show 3 ≤ _; omega, ⟨by show 3 ≤ _; omega, fun i _ => by show 3 ≤ _; omega⟩, ⟨by show 3 ≤ _; omega, fun i _ => by show 3 ≤ _; omega⟩⟩

def Sampled (w : World) (e : Ending) (w' : World) : Prop := ∃ b, e = .returned (sampT b).val ∧ (sampT b).In w' ∧ Below w.heap.size w w'
set_option maxRecDepth 100000 in
set_option maxHeartbeats 4000000 in
theorem sample_any (w : World) : Calls Try.prog 47 #[] w (Sampled w) := by
  obtain ⟨W1, hW1⟩ : ∃ W1, ((((((((((w.alloc (.cells #[.slice (some ⟨w.heap.size + 1, 0, none⟩) 3 3, .slice (some ⟨w.heap.size + 1 + 1, 0, none⟩) 3 3, .slice (some ⟨w.heap.size + 1 + 1 + 1 + 1 + 1 + 1, 0, none⟩) 3 3, .slice (some ⟨w.heap.size + 1 + 1 + 1 + 1 + 1 + 1 + 1 + 1 + 1 + 1, 0, none⟩) 3 3] 25)).alloc (.cells #[.int .i64 100, .int .i64 200, .int .i64 300] 3)).alloc (.cells #[.int .i64 0, .int .i64 5000, .int .i64 10000] 3)).alloc (.cells #[.int .i64 (-100), .int .i64 4600, .int .i64 9700] 3)).alloc (.cells #[.int .i64 0, .int .i64 5000, .int .i64 10000] 3)).alloc (.cells #[.int .i64 200, .int .i64 5500, .int .i64 10200] 3)).alloc (.cells #[.slice (some ⟨w.heap.size + 1 + 1 + 1, 0, none⟩) 3 3, .slice (some ⟨w.heap.size + 1 + 1 + 1 + 1, 0, none⟩) 3 3, .slice (some ⟨w.heap.size + 1 + 1 + 1 + 1 + 1, 0, none⟩) 3 3] 22)).alloc (.cells #[.int .i64 999000, .int .i64 992000, .int .i64 990000] 3)).alloc (.cells #[.int .i64 1000000, .int .i64 1000000, .int .i64 1000000] 3)).alloc (.cells #[.int .i64 1002000, .int .i64 1009000, .int .i64 1012000] 3)).alloc (.cells #[.slice (some ⟨w.heap.size + 1 + 1 + 1 + 1 + 1 + 1 + 1, 0, none⟩) 3 3, .slice (some ⟨w.heap.size + 1 + 1 + 1 + 1 + 1 + 1 + 1 + 1, 0, none⟩) 3 3, .slice (some ⟨w.heap.size + 1 + 1 + 1 + 1 + 1 + 1 + 1 + 1 + 1, 0, none⟩) 3 3] 22) = W1 := ⟨_, rfl⟩
  have hBc : Below w.heap.size w W1 := by rw [← hW1]; exact ((((((((((below_alloc _ _).alloc (by simp) _).alloc (by simp <;> omega) _).alloc (by simp <;> omega) _).alloc (by simp <;> omega) _).alloc (by simp <;> omega) _).alloc (by simp <;> omega) _).alloc (by simp <;> omega) _).alloc (by simp <;> omega) _).alloc (by simp <;> omega) _).alloc (by simp <;> omega) _
  have zc0 : W1.heap[w.heap.size]? = some (.cells #[.slice (some ⟨w.heap.size + 1, 0, none⟩) 3 3, .slice (some ⟨w.heap.size + 1 + 1, 0, none⟩) 3 3, .slice (some ⟨w.heap.size + 1 + 1 + 1 + 1 + 1 + 1, 0, none⟩) 3 3, .slice (some ⟨w.heap.size + 1 + 1 + 1 + 1 + 1 + 1 + 1 + 1 + 1 + 1, 0, none⟩) 3 3] 25 (0, 0)) := by rw [← hW1]; exact alloc_keep (alloc_keep (alloc_keep (alloc_keep (alloc_keep (alloc_keep (alloc_keep (alloc_keep (alloc_keep (alloc_keep (alloc_at rfl))))))))))
  have zc1 : W1.heap[w.heap.size + 1]? = some (.cells #[.int .i64 100, .int .i64 200, .int .i64 300] 3 (0, 0)) := by rw [← hW1]; exact alloc_keep (alloc_keep (alloc_keep (alloc_keep (alloc_keep (alloc_keep (alloc_keep (alloc_keep (alloc_keep (alloc_at (by simp))))))))))
  have zc2 : W1.heap[w.heap.size + 1 + 1]? = some (.cells #[.int .i64 0, .int .i64 5000, .int .i64 10000] 3 (0, 0)) := by rw [← hW1]; exact alloc_keep (alloc_keep (alloc_keep (alloc_keep (alloc_keep (alloc_keep (alloc_keep (alloc_keep (alloc_at (by simp <;> omega)))))))))
  have zc3 : W1.heap[w.heap.size + 1 + 1 + 1]? = some (.cells #[.int .i64 (-100), .int .i64 4600, .int .i64 9700] 3 (0, 0)) := by rw [← hW1]; exact alloc_keep (alloc_keep (alloc_keep (alloc_keep (alloc_keep (alloc_keep (alloc_keep (alloc_at (by simp <;> omega))))))))
  have zc4 : W1.heap[w.heap.size + 1 + 1 + 1 + 1]? = some (.cells #[.int .i64 0, .int .i64 5000, .int .i64 10000] 3 (0, 0)) := by rw [← hW1]; exact alloc_keep (alloc_keep (alloc_keep (alloc_keep (alloc_keep (alloc_keep (alloc_at (by simp <;> omega)))))))
  have zc5 : W1.heap[w.heap.size + 1 + 1 + 1 + 1 + 1]? = some (.cells #[.int .i64 200, .int .i64 5500, .int .i64 10200] 3 (0, 0)) := by rw [← hW1]; exact alloc_keep (alloc_keep (alloc_keep (alloc_keep (alloc_keep (alloc_at (by simp <;> omega))))))
  have zc6 : W1.heap[w.heap.size + 1 + 1 + 1 + 1 + 1 + 1]? = some (.cells #[.slice (some ⟨w.heap.size + 1 + 1 + 1, 0, none⟩) 3 3, .slice (some ⟨w.heap.size + 1 + 1 + 1 + 1, 0, none⟩) 3 3, .slice (some ⟨w.heap.size + 1 + 1 + 1 + 1 + 1, 0, none⟩) 3 3] 22 (0, 0)) := by rw [← hW1]; exact alloc_keep (alloc_keep (alloc_keep (alloc_keep (alloc_at (by simp <;> omega)))))
  have zc7 : W1.heap[w.heap.size + 1 + 1 + 1 + 1 + 1 + 1 + 1]? = some (.cells #[.int .i64 999000, .int .i64 992000, .int .i64 990000] 3 (0, 0)) := by rw [← hW1]; exact alloc_keep (alloc_keep (alloc_keep (alloc_at (by simp <;> omega))))
  have zc8 : W1.heap[w.heap.size + 1 + 1 + 1 + 1 + 1 + 1 + 1 + 1]? = some (.cells #[.int .i64 1000000, .int .i64 1000000, .int .i64 1000000] 3 (0, 0)) := by rw [← hW1]; exact alloc_keep (alloc_keep (alloc_at (by simp <;> omega)))
  have zc9 : W1.heap[w.heap.size + 1 + 1 + 1 + 1 + 1 + 1 + 1 + 1 + 1]? = some (.cells #[.int .i64 1002000, .int .i64 1009000, .int .i64 1012000] 3 (0, 0)) := by rw [← hW1]; exact alloc_keep (alloc_at (by simp <;> omega))
  have zc10 : W1.heap[w.heap.size + 1 + 1 + 1 + 1 + 1 + 1 + 1 + 1 + 1 + 1]? = some (.cells #[.slice (some ⟨w.heap.size + 1 + 1 + 1 + 1 + 1 + 1 + 1, 0, none⟩) 3 3, .slice (some ⟨w.heap.size + 1 + 1 + 1 + 1 + 1 + 1 + 1 + 1, 0, none⟩) 3 3, .slice (some ⟨w.heap.size + 1 + 1 + 1 + 1 + 1 + 1 + 1 + 1 + 1, 0, none⟩) 3 3] 22 (0, 0)) := by rw [← hW1]; exact alloc_at (by simp <;> omega)
  have c00 : W1.cell? ⟨w.heap.size, 0, none⟩ = some (.slice (some ⟨w.heap.size + 1, 0, none⟩) 3 3) := cell_of_block zc0 0 (by simp)
  have c01 : W1.cell? ⟨w.heap.size, 1, none⟩ = some (.slice (some ⟨w.heap.size + 1 + 1, 0, none⟩) 3 3) := cell_of_block zc0 1 (by simp)
  have c02 : W1.cell? ⟨w.heap.size, 2, none⟩ = some (.slice (some ⟨w.heap.size + 1 + 1 + 1 + 1 + 1 + 1, 0, none⟩) 3 3) := cell_of_block zc0 2 (by simp)
  have c03 : W1.cell? ⟨w.heap.size, 3, none⟩ = some (.slice (some ⟨w.heap.size + 1 + 1 + 1 + 1 + 1 + 1 + 1 + 1 + 1 + 1, 0, none⟩) 3 3) := cell_of_block zc0 3 (by simp)
  have lc0 := (Array.getElem?_eq_some_iff.1 zc0).1
  have lc1 := (Array.getElem?_eq_some_iff.1 zc1).1
  have lc2 := (Array.getElem?_eq_some_iff.1 zc2).1
  have lc3 := (Array.getElem?_eq_some_iff.1 zc3).1
  have lc4 := (Array.getElem?_eq_some_iff.1 zc4).1
  have lc5 := (Array.getElem?_eq_some_iff.1 zc5).1
  have lc6 := (Array.getElem?_eq_some_iff.1 zc6).1
  have lc7 := (Array.getElem?_eq_some_iff.1 zc7).1
  have lc8 := (Array.getElem?_eq_some_iff.1 zc8).1
  have lc9 := (Array.getElem?_eq_some_iff.1 zc9).1
  have lc10 := (Array.getElem?_eq_some_iff.1 zc10).1
  have fc00 := frozen_of_block zc0 0
  have fc01 := frozen_of_block zc0 1
  have fc02 := frozen_of_block zc0 2
  have fc03 := frozen_of_block zc0 3
  have Zc0 := Lib.hid zc0
  have Zc1 := Lib.hid zc1
  have Zc2 := Lib.hid zc2
  have Zc3 := Lib.hid zc3
  have Zc4 := Lib.hid zc4
  have Zc5 := Lib.hid zc5
  have Zc6 := Lib.hid zc6
  have Zc7 := Lib.hid zc7
  have Zc8 := Lib.hid zc8
  have Zc9 := Lib.hid zc9
  have Zc10 := Lib.hid zc10
  clear zc0 zc1 zc2 zc3 zc4 zc5 zc6 zc7 zc8 zc9 zc10
  have HBc := Lib.hid hBc; clear hBc
  have HWc := Lib.hid hW1; clear hW1
  go_enter Try.func47, Try.ntmps47
  go_wp2_with fail
  rw [HWc.out]
  refine bodyPost_ret (v := .agg #[.slice (some ⟨w.heap.size + 1, 0, none⟩) 3 3, .slice (some ⟨w.heap.size + 1 + 1, 0, none⟩) 3 3, .slice (some ⟨w.heap.size + 1 + 1 + 1 + 1 + 1 + 1, 0, none⟩) 3 3, .slice (some ⟨w.heap.size + 1 + 1 + 1 + 1 + 1 + 1 + 1 + 1 + 1 + 1, 0, none⟩) 3 3]) (by simp [results, Try.results47, go_sem, *]) rfl ⟨w.heap.size, rfl, ?_, HBc.out⟩
  refine ⟨ints_three Zc1.out rfl rfl rfl, ints_three Zc2.out rfl rfl rfl,
    rows_three Zc6.out (ints_three Zc3.out rfl rfl rfl) (ints_three Zc4.out rfl rfl rfl) (ints_three Zc5.out rfl rfl rfl),
    rows_three Zc10.out (ints_three Zc7.out rfl rfl rfl) (ints_three Zc8.out rfl rfl rfl) (ints_three Zc9.out rfl rfl rfl)⟩
end Go.Proofs.Ytohcopdfdmjhnaa.L1
