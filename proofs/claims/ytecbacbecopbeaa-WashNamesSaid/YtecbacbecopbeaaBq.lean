/- Contracts of sample and alive. No conditions beyond each theorem's own. -/
import Derived.Test.YtecbacbecopbeaaBp
import Derived.Test.YtecbacbecopbeaaBe
set_option linter.unusedVariables false
set_option linter.unusedSimpArgs false
set_option linter.unusedSectionVars false
set_option linter.constructorNameAsVariable false
namespace Go.Proofs.Ytecbacbecopbeaa
open Go.RowKit

attribute [local go_sem] gw_cell gw_frozen gw_size

def sampT (i : Nat) : Int := [20000, 30000].getD i 0
def sampA (i : Nat) : Int := [10, 50, 0].getD i 0
def sampB (i : Nat) : Int := [20, 100, 5].getD i 0
def sampY (bT bR : Nat) : Yst := ⟨some ⟨bT, 0, none⟩, 2, 2, some ⟨bR, 0, none⟩, 3, 3, sampT, sampA, sampB, 640, 650, 480, 490, 600, 600⟩
def sampV : Vat := ⟨1000000, 1000000, 0, 0, 0, 0, 0, 0, 0, 0, 25000, 25000, 40000000⟩
def sampM : Msh := ⟨1000, 4000, 700, 750, 1000, 1200⟩
theorem samp_fits (bT bR : Nat) : (sampY bT bR).Fits := ⟨by show 2 ≤ _; omega, by show 3 ≤ _; omega, by show 3 ≤ 3; omega, by show 3 ≤ _; omega⟩
def Sampled (w : World) (e : Ending) (w' : World) : Prop :=
  ∃ bT bR, e = .returned (.tuple #[.agg #[.slice (some ⟨bT, 0, none⟩) 2 2, .slice (some ⟨bR, 0, none⟩) 3 3, .int .i64 640, .int .i64 650, .int .i64 480, .int .i64 490, .int .i64 600, .int .i64 600], .agg #[.int .i64 1000000, .int .i64 1000000, .int .i64 0, .int .i64 0, .int .i64 0, .int .i64 0, .int .i64 0, .int .i64 0, .int .i64 0, .int .i64 0, .int .i64 25000, .int .i64 25000, .int .i64 40000000]]) ∧ (sampY bT bR).In w' ∧ Below w.heap.size w w'

set_option maxRecDepth 100000 in
set_option maxHeartbeats 4000000 in
theorem sample_any (w : World) : Calls Try.prog 49 #[] w (Sampled w) := by
  obtain ⟨W1, hW1⟩ : ∃ W1, ((((w.alloc (.cells #[.slice none 0 0, .slice none 0 0, .int .i64 0, .int .i64 0, .int .i64 0, .int .i64 0, .int .i64 0, .int .i64 0] 36)).alloc (.cells #[.int .i64 0, .int .i64 0, .int .i64 0, .int .i64 0, .int .i64 0, .int .i64 0, .int .i64 0, .int .i64 0, .int .i64 0, .int .i64 0, .int .i64 0, .int .i64 0, .int .i64 0] 38)).alloc (.cells #[.int .i64 20000, .int .i64 30000] 3)).alloc (.cells #[.int .i64 10, .int .i64 20, .int .i64 50, .int .i64 100, .int .i64 0, .int .i64 5] 23)).alloc (.cells #[.slice (some ⟨w.heap.size + 1 + 1, 0, none⟩) 2 2, .slice (some ⟨w.heap.size + 1 + 1 + 1, 0, none⟩) 3 3, .int .i64 640, .int .i64 650, .int .i64 480, .int .i64 490, .int .i64 600, .int .i64 600] 36) = W1 := ⟨_, rfl⟩
  have hBc : Below w.heap.size w W1 := by rw [← hW1]; exact ((((below_alloc _ _).alloc (by simp) _).alloc (by simp <;> omega) _).alloc (by simp <;> omega) _).alloc (by simp <;> omega) _
  have zc0 : W1.heap[w.heap.size]? = some (.cells #[.slice none 0 0, .slice none 0 0, .int .i64 0, .int .i64 0, .int .i64 0, .int .i64 0, .int .i64 0, .int .i64 0] 36 (0, 0)) := by rw [← hW1]; exact alloc_keep (alloc_keep (alloc_keep (alloc_keep (alloc_at rfl))))
  have zc1 : W1.heap[w.heap.size + 1]? = some (.cells #[.int .i64 0, .int .i64 0, .int .i64 0, .int .i64 0, .int .i64 0, .int .i64 0, .int .i64 0, .int .i64 0, .int .i64 0, .int .i64 0, .int .i64 0, .int .i64 0, .int .i64 0] 38 (0, 0)) := by rw [← hW1]; exact alloc_keep (alloc_keep (alloc_keep (alloc_at (by simp))))
  have zc2 : W1.heap[w.heap.size + 1 + 1]? = some (.cells #[.int .i64 20000, .int .i64 30000] 3 (0, 0)) := by rw [← hW1]; exact alloc_keep (alloc_keep (alloc_at (by simp <;> omega)))
  have zc3 : W1.heap[w.heap.size + 1 + 1 + 1]? = some (.cells #[.int .i64 10, .int .i64 20, .int .i64 50, .int .i64 100, .int .i64 0, .int .i64 5] 23 (0, 0)) := by rw [← hW1]; exact alloc_keep (alloc_at (by simp <;> omega))
  have zc4 : W1.heap[w.heap.size + 1 + 1 + 1 + 1]? = some (.cells #[.slice (some ⟨w.heap.size + 1 + 1, 0, none⟩) 2 2, .slice (some ⟨w.heap.size + 1 + 1 + 1, 0, none⟩) 3 3, .int .i64 640, .int .i64 650, .int .i64 480, .int .i64 490, .int .i64 600, .int .i64 600] 36 (0, 0)) := by rw [← hW1]; exact alloc_at (by simp <;> omega)
  have c00 : W1.cell? ⟨w.heap.size, 0, none⟩ = some (.slice none 0 0) := cell_of_block zc0 0 (by simp)
  have c01 : W1.cell? ⟨w.heap.size, 1, none⟩ = some (.slice none 0 0) := cell_of_block zc0 1 (by simp)
  have c02 : W1.cell? ⟨w.heap.size, 2, none⟩ = some (.int .i64 0) := cell_of_block zc0 2 (by simp)
  have c03 : W1.cell? ⟨w.heap.size, 3, none⟩ = some (.int .i64 0) := cell_of_block zc0 3 (by simp)
  have c04 : W1.cell? ⟨w.heap.size, 4, none⟩ = some (.int .i64 0) := cell_of_block zc0 4 (by simp)
  have c05 : W1.cell? ⟨w.heap.size, 5, none⟩ = some (.int .i64 0) := cell_of_block zc0 5 (by simp)
  have c06 : W1.cell? ⟨w.heap.size, 6, none⟩ = some (.int .i64 0) := cell_of_block zc0 6 (by simp)
  have c07 : W1.cell? ⟨w.heap.size, 7, none⟩ = some (.int .i64 0) := cell_of_block zc0 7 (by simp)
  have c10 : W1.cell? ⟨w.heap.size + 1, 0, none⟩ = some (.int .i64 0) := cell_of_block zc1 0 (by simp)
  have c11 : W1.cell? ⟨w.heap.size + 1, 1, none⟩ = some (.int .i64 0) := cell_of_block zc1 1 (by simp)
  have c12 : W1.cell? ⟨w.heap.size + 1, 2, none⟩ = some (.int .i64 0) := cell_of_block zc1 2 (by simp)
  have c13 : W1.cell? ⟨w.heap.size + 1, 3, none⟩ = some (.int .i64 0) := cell_of_block zc1 3 (by simp)
  have c14 : W1.cell? ⟨w.heap.size + 1, 4, none⟩ = some (.int .i64 0) := cell_of_block zc1 4 (by simp)
  have c15 : W1.cell? ⟨w.heap.size + 1, 5, none⟩ = some (.int .i64 0) := cell_of_block zc1 5 (by simp)
  have c16 : W1.cell? ⟨w.heap.size + 1, 6, none⟩ = some (.int .i64 0) := cell_of_block zc1 6 (by simp)
  have c17 : W1.cell? ⟨w.heap.size + 1, 7, none⟩ = some (.int .i64 0) := cell_of_block zc1 7 (by simp)
  have c18 : W1.cell? ⟨w.heap.size + 1, 8, none⟩ = some (.int .i64 0) := cell_of_block zc1 8 (by simp)
  have c19 : W1.cell? ⟨w.heap.size + 1, 9, none⟩ = some (.int .i64 0) := cell_of_block zc1 9 (by simp)
  have c110 : W1.cell? ⟨w.heap.size + 1, 10, none⟩ = some (.int .i64 0) := cell_of_block zc1 10 (by simp)
  have c111 : W1.cell? ⟨w.heap.size + 1, 11, none⟩ = some (.int .i64 0) := cell_of_block zc1 11 (by simp)
  have c112 : W1.cell? ⟨w.heap.size + 1, 12, none⟩ = some (.int .i64 0) := cell_of_block zc1 12 (by simp)
  have c20 : W1.cell? ⟨w.heap.size + 1 + 1, 0, none⟩ = some (.int .i64 20000) := cell_of_block zc2 0 (by simp)
  have c21 : W1.cell? ⟨w.heap.size + 1 + 1, 1, none⟩ = some (.int .i64 30000) := cell_of_block zc2 1 (by simp)
  have c30 : W1.cell? ⟨w.heap.size + 1 + 1 + 1, 0, none⟩ = some (.int .i64 10) := cell_of_block zc3 0 (by simp)
  have c31 : W1.cell? ⟨w.heap.size + 1 + 1 + 1, 1, none⟩ = some (.int .i64 20) := cell_of_block zc3 1 (by simp)
  have c32 : W1.cell? ⟨w.heap.size + 1 + 1 + 1, 2, none⟩ = some (.int .i64 50) := cell_of_block zc3 2 (by simp)
  have c33 : W1.cell? ⟨w.heap.size + 1 + 1 + 1, 3, none⟩ = some (.int .i64 100) := cell_of_block zc3 3 (by simp)
  have c34 : W1.cell? ⟨w.heap.size + 1 + 1 + 1, 4, none⟩ = some (.int .i64 0) := cell_of_block zc3 4 (by simp)
  have c35 : W1.cell? ⟨w.heap.size + 1 + 1 + 1, 5, none⟩ = some (.int .i64 5) := cell_of_block zc3 5 (by simp)
  have c40 : W1.cell? ⟨w.heap.size + 1 + 1 + 1 + 1, 0, none⟩ = some (.slice (some ⟨w.heap.size + 1 + 1, 0, none⟩) 2 2) := cell_of_block zc4 0 (by simp)
  have c41 : W1.cell? ⟨w.heap.size + 1 + 1 + 1 + 1, 1, none⟩ = some (.slice (some ⟨w.heap.size + 1 + 1 + 1, 0, none⟩) 3 3) := cell_of_block zc4 1 (by simp)
  have c42 : W1.cell? ⟨w.heap.size + 1 + 1 + 1 + 1, 2, none⟩ = some (.int .i64 640) := cell_of_block zc4 2 (by simp)
  have c43 : W1.cell? ⟨w.heap.size + 1 + 1 + 1 + 1, 3, none⟩ = some (.int .i64 650) := cell_of_block zc4 3 (by simp)
  have c44 : W1.cell? ⟨w.heap.size + 1 + 1 + 1 + 1, 4, none⟩ = some (.int .i64 480) := cell_of_block zc4 4 (by simp)
  have c45 : W1.cell? ⟨w.heap.size + 1 + 1 + 1 + 1, 5, none⟩ = some (.int .i64 490) := cell_of_block zc4 5 (by simp)
  have c46 : W1.cell? ⟨w.heap.size + 1 + 1 + 1 + 1, 6, none⟩ = some (.int .i64 600) := cell_of_block zc4 6 (by simp)
  have c47 : W1.cell? ⟨w.heap.size + 1 + 1 + 1 + 1, 7, none⟩ = some (.int .i64 600) := cell_of_block zc4 7 (by simp)
  have lc0 := (Array.getElem?_eq_some_iff.1 zc0).1
  have lc1 := (Array.getElem?_eq_some_iff.1 zc1).1
  have lc2 := (Array.getElem?_eq_some_iff.1 zc2).1
  have lc3 := (Array.getElem?_eq_some_iff.1 zc3).1
  have lc4 := (Array.getElem?_eq_some_iff.1 zc4).1
  have fc00 := frozen_of_block zc0 0
  have fc01 := frozen_of_block zc0 1
  have fc02 := frozen_of_block zc0 2
  have fc03 := frozen_of_block zc0 3
  have fc04 := frozen_of_block zc0 4
  have fc05 := frozen_of_block zc0 5
  have fc06 := frozen_of_block zc0 6
  have fc07 := frozen_of_block zc0 7
  have fc10 := frozen_of_block zc1 0
  have fc11 := frozen_of_block zc1 1
  have fc12 := frozen_of_block zc1 2
  have fc13 := frozen_of_block zc1 3
  have fc14 := frozen_of_block zc1 4
  have fc15 := frozen_of_block zc1 5
  have fc16 := frozen_of_block zc1 6
  have fc17 := frozen_of_block zc1 7
  have fc18 := frozen_of_block zc1 8
  have fc19 := frozen_of_block zc1 9
  have fc110 := frozen_of_block zc1 10
  have fc111 := frozen_of_block zc1 11
  have fc112 := frozen_of_block zc1 12
  have Zc0 := Lib.hid zc0
  have Zc1 := Lib.hid zc1
  have Zc2 := Lib.hid zc2
  have Zc3 := Lib.hid zc3
  clear zc0 zc1 zc2 zc3 zc4
  have HBc := Lib.hid hBc; clear hBc
  have HWc := Lib.hid hW1; clear hW1
  go_enter Try.func49, Try.ntmps49
  go_upto_region 2 with (fail)
  rw [HWc.out]
  have sz := HBc.out.size
  go_wp2_with fail
  refine bodyPost_ret (v := .tuple #[.agg #[.slice (some ⟨w.heap.size + 1 + 1, 0, none⟩) 2 2, .slice (some ⟨w.heap.size + 1 + 1 + 1, 0, none⟩) 3 3, .int .i64 640, .int .i64 650, .int .i64 480, .int .i64 490, .int .i64 600, .int .i64 600], .agg #[.int .i64 1000000, .int .i64 1000000, .int .i64 0, .int .i64 0, .int .i64 0, .int .i64 0, .int .i64 0, .int .i64 0, .int .i64 0, .int .i64 0, .int .i64 25000, .int .i64 25000, .int .i64 40000000]]) (by simp [results, Try.results49, go_sem, *]) rfl ⟨_, _, rfl, ?_, ?_⟩
  · have t0 : (setAll (setAll W1 w.heap.size 0 [.slice (some ⟨w.heap.size + 1 + 1, 0, none⟩) 2 2, .slice (some ⟨w.heap.size + 1 + 1 + 1, 0, none⟩) 3 3, .int .i64 640, .int .i64 650, .int .i64 480, .int .i64 490, .int .i64 600, .int .i64 600]) (w.heap.size + 1) 0 [.int .i64 1000000, .int .i64 1000000, .int .i64 0, .int .i64 0, .int .i64 0, .int .i64 0, .int .i64 0, .int .i64 0, .int .i64 0, .int .i64 0, .int .i64 25000, .int .i64 25000, .int .i64 40000000]).heap[w.heap.size + 1 + 1]? = _ := (((setAll_grown _ _ 0 _).block _ (by have := (setAll_grown w.heap.size [.slice (some ⟨w.heap.size + 1 + 1, 0, none⟩) 2 2, .slice (some ⟨w.heap.size + 1 + 1 + 1, 0, none⟩) 3 3, .int .i64 640, .int .i64 650, .int .i64 480, .int .i64 490, .int .i64 600, .int .i64 600] 0 W1).size; omega) (by simp)).trans ((setAll_grown _ _ 0 _).block _ lc2 (by simp <;> omega))).trans Zc2.out
    have t1 : (setAll (setAll W1 w.heap.size 0 [.slice (some ⟨w.heap.size + 1 + 1, 0, none⟩) 2 2, .slice (some ⟨w.heap.size + 1 + 1 + 1, 0, none⟩) 3 3, .int .i64 640, .int .i64 650, .int .i64 480, .int .i64 490, .int .i64 600, .int .i64 600]) (w.heap.size + 1) 0 [.int .i64 1000000, .int .i64 1000000, .int .i64 0, .int .i64 0, .int .i64 0, .int .i64 0, .int .i64 0, .int .i64 0, .int .i64 0, .int .i64 0, .int .i64 25000, .int .i64 25000, .int .i64 40000000]).heap[w.heap.size + 1 + 1 + 1]? = _ := (((setAll_grown _ _ 0 _).block _ (by have := (setAll_grown w.heap.size [.slice (some ⟨w.heap.size + 1 + 1, 0, none⟩) 2 2, .slice (some ⟨w.heap.size + 1 + 1 + 1, 0, none⟩) 3 3, .int .i64 640, .int .i64 650, .int .i64 480, .int .i64 490, .int .i64 600, .int .i64 600] 0 W1).size; omega) (by simp <;> omega)).trans ((setAll_grown _ _ 0 _).block _ lc3 (by simp <;> omega))).trans Zc3.out
    refine ⟨.inr ⟨_, 0, rfl, (Array.getElem?_eq_some_iff.1 t0).1, fun i hi => ?_⟩, .inr ⟨_, 0, rfl, (Array.getElem?_eq_some_iff.1 t1).1, fun i hi => ?_⟩⟩
    · match i, (show i < 2 from hi) with
      | 0, _ => exact cell_of_block t0 0 (by simp)
      | 1, _ => exact cell_of_block t0 1 (by simp)
    · match i, (show i < 3 from hi) with
      | 0, _ => exact ⟨cell_of_block t1 0 (by simp), cell_of_block t1 1 (by simp)⟩
      | 1, _ => exact ⟨cell_of_block t1 2 (by simp), cell_of_block t1 3 (by simp)⟩
      | 2, _ => exact ⟨cell_of_block t1 4 (by simp), cell_of_block t1 5 (by simp)⟩
  · exact setAll_below (setAll_below HBc.out HBc.out.size (Nat.le_refl _) [.slice (some ⟨w.heap.size + 1 + 1, 0, none⟩) 2 2, .slice (some ⟨w.heap.size + 1 + 1 + 1, 0, none⟩) 3 3, .int .i64 640, .int .i64 650, .int .i64 480, .int .i64 490, .int .i64 600, .int .i64 600] 0) (by have := (setAll_grown w.heap.size [.slice (some ⟨w.heap.size + 1 + 1, 0, none⟩) 2 2, .slice (some ⟨w.heap.size + 1 + 1 + 1, 0, none⟩) 3 3, .int .i64 640, .int .i64 650, .int .i64 480, .int .i64 490, .int .i64 600, .int .i64 600] 0 W1).size; omega) (by omega) [.int .i64 1000000, .int .i64 1000000, .int .i64 0, .int .i64 0, .int .i64 0, .int .i64 0, .int .i64 0, .int .i64 0, .int .i64 0, .int .i64 0, .int .i64 25000, .int .i64 25000, .int .i64 40000000] 0

theorem samp_hourE (bT bR : Nat) : hourE (sampY bT bR) sampV 1000 1200 = 0 := by kernel_rfl
theorem samp_hourV (bT bR : Nat) : hourV (sampY bT bR) sampV 1000 1200 = ⟨900000, 950000, 50000, 100000, 32000, 65000, 24000, 49000, 24000, 49000, 24550, 25500, 40000000⟩ := by kernel_rfl
theorem samp_mashE : mashE sampM = 0 := by kernel_rfl
theorem samp_mashO : mashO sampM = ⟨490, 563, 2800, 3000, 175, 225⟩ := by kernel_rfl
theorem samp_ventN : ventN 100 400 = 250 := by
  refine (okN_unique (by omega) (fun t ht => ?_) (fun _ => ?_)).symm
  · cases h : ventB 100 400 t with
    | false => rfl
    | true =>
      have := ventB_mono (249 - t) t (by omega) h
      rw [show t + (249 - t) = 249 by omega, show ventB 100 400 249 = false by kernel_rfl] at this
      cases this
  · show (!ventB 100 400 250) = false
    kernel_rfl
theorem samp_ventE : ventE 100 400 = 0 := by unfold ventE; rw [samp_ventN]; kernel_rfl
theorem samp_ventV : ventV 100 400 = 250 := by unfold ventV; rw [samp_ventE, samp_ventN]; rfl

set_option maxRecDepth 100000 in
set_option maxHeartbeats 8000000 in
theorem alive_any (w : World) : Calls Try.prog 18 #[] w fun e w' => e = .returned (.bool true) ∧ Below w.heap.size w w' := by
  go_enter Try.func18, Try.ntmps18
  go_wp2_with fail
  refine (sample_any w).mono ?_
  rintro e W1 ⟨bT, bR, rfl, IN, hb⟩
  have HBc := Lib.hid hb; clear hb
  have HO := fun W (hb : Below W1.heap.size W1 W) => Hour_any (sampY bT bR) sampV 1000 1200 W (IN.below hb) (samp_fits _ _)
  rw [samp_hourE, samp_hourV] at HO
  unfold Yst.val Vat.val sampY sampV at HO
  dsimp only at HO
  have HO' := Lib.hid HO; clear HO
  have MA := fun (W : World) (hb : Below W1.heap.size W1 W) => Mash_any sampM W
  rw [samp_mashE, samp_mashO] at MA
  unfold Msh.val MOut.val sampM at MA
  dsimp only at MA
  have MA' := Lib.hid MA; clear MA
  have VE := fun (W : World) (hb : Below W1.heap.size W1 W) => Vent_any 100 400 W
  rw [samp_ventE, samp_ventV] at VE
  have VE' := Lib.hid VE; clear VE IN
  go_upto_region 2 with (fail)
  obtain ⟨W2, hW2⟩ : ∃ W2, (((W1)).alloc (.cells #[.slice (some ⟨bT, 0, none⟩) 2 2, .slice (some ⟨bR, 0, none⟩) 3 3, .int .i64 640, .int .i64 650, .int .i64 480, .int .i64 490, .int .i64 600, .int .i64 600] 36)).alloc (.cells #[.int .i64 1000000, .int .i64 1000000, .int .i64 0, .int .i64 0, .int .i64 0, .int .i64 0, .int .i64 0, .int .i64 0, .int .i64 0, .int .i64 0, .int .i64 25000, .int .i64 25000, .int .i64 40000000] 38) = W2 := ⟨_, rfl⟩
  have hbW2 : Below W1.heap.size W1 W2 := by rw [← hW2]; exact ((Below.refl _ W1).alloc (by simp [gw_size]) _).alloc (by simp [gw_size] <;> omega) _
  have zyW2 : W2.heap[W1.heap.size]? = some (.cells #[.slice (some ⟨bT, 0, none⟩) 2 2, .slice (some ⟨bR, 0, none⟩) 3 3, .int .i64 640, .int .i64 650, .int .i64 480, .int .i64 490, .int .i64 600, .int .i64 600] 36 (0, 0)) := by rw [← hW2]; exact alloc_keep (alloc_at (by simp [gw_size]))
  have ZyW2 := Lib.hid zyW2; clear zyW2
  have zvW2 : W2.heap[W1.heap.size + 1]? = some (.cells #[.int .i64 1000000, .int .i64 1000000, .int .i64 0, .int .i64 0, .int .i64 0, .int .i64 0, .int .i64 0, .int .i64 0, .int .i64 0, .int .i64 0, .int .i64 25000, .int .i64 25000, .int .i64 40000000] 38 (0, 0)) := by rw [← hW2]; exact alloc_at (by simp [gw_size] <;> omega)
  have ZvW2 := Lib.hid zvW2; clear zvW2
  have HBW2 := Lib.hid (thru hbW2 HBc.out)
  have SBW2 := Lib.hid hbW2; clear hbW2
  have HWW2 := Lib.hid hW2; clear hW2
  rw [HWW2.out]
  have S2 := Lib.hid SBW2.out
  have ey0W2 : W2.cell? ⟨W1.heap.size, 0, none⟩ = some (.slice (some ⟨bT, 0, none⟩) 2 2) := cell_of_block ZyW2.out 0 (by simp)
  have ey1W2 : W2.cell? ⟨W1.heap.size, 1, none⟩ = some (.slice (some ⟨bR, 0, none⟩) 3 3) := cell_of_block ZyW2.out 1 (by simp)
  have ey2W2 : W2.cell? ⟨W1.heap.size, 2, none⟩ = some (.int .i64 640) := cell_of_block ZyW2.out 2 (by simp)
  have ey3W2 : W2.cell? ⟨W1.heap.size, 3, none⟩ = some (.int .i64 650) := cell_of_block ZyW2.out 3 (by simp)
  have ey4W2 : W2.cell? ⟨W1.heap.size, 4, none⟩ = some (.int .i64 480) := cell_of_block ZyW2.out 4 (by simp)
  have ey5W2 : W2.cell? ⟨W1.heap.size, 5, none⟩ = some (.int .i64 490) := cell_of_block ZyW2.out 5 (by simp)
  have ey6W2 : W2.cell? ⟨W1.heap.size, 6, none⟩ = some (.int .i64 600) := cell_of_block ZyW2.out 6 (by simp)
  have ey7W2 : W2.cell? ⟨W1.heap.size, 7, none⟩ = some (.int .i64 600) := cell_of_block ZyW2.out 7 (by simp)
  have lyW2 := (Array.getElem?_eq_some_iff.1 ZyW2.out).1
  have ev0W2 : W2.cell? ⟨W1.heap.size + 1, 0, none⟩ = some (.int .i64 1000000) := cell_of_block ZvW2.out 0 (by simp)
  have ev1W2 : W2.cell? ⟨W1.heap.size + 1, 1, none⟩ = some (.int .i64 1000000) := cell_of_block ZvW2.out 1 (by simp)
  have ev2W2 : W2.cell? ⟨W1.heap.size + 1, 2, none⟩ = some (.int .i64 0) := cell_of_block ZvW2.out 2 (by simp)
  have ev3W2 : W2.cell? ⟨W1.heap.size + 1, 3, none⟩ = some (.int .i64 0) := cell_of_block ZvW2.out 3 (by simp)
  have ev4W2 : W2.cell? ⟨W1.heap.size + 1, 4, none⟩ = some (.int .i64 0) := cell_of_block ZvW2.out 4 (by simp)
  have ev5W2 : W2.cell? ⟨W1.heap.size + 1, 5, none⟩ = some (.int .i64 0) := cell_of_block ZvW2.out 5 (by simp)
  have ev6W2 : W2.cell? ⟨W1.heap.size + 1, 6, none⟩ = some (.int .i64 0) := cell_of_block ZvW2.out 6 (by simp)
  have ev7W2 : W2.cell? ⟨W1.heap.size + 1, 7, none⟩ = some (.int .i64 0) := cell_of_block ZvW2.out 7 (by simp)
  have ev8W2 : W2.cell? ⟨W1.heap.size + 1, 8, none⟩ = some (.int .i64 0) := cell_of_block ZvW2.out 8 (by simp)
  have ev9W2 : W2.cell? ⟨W1.heap.size + 1, 9, none⟩ = some (.int .i64 0) := cell_of_block ZvW2.out 9 (by simp)
  have ev10W2 : W2.cell? ⟨W1.heap.size + 1, 10, none⟩ = some (.int .i64 25000) := cell_of_block ZvW2.out 10 (by simp)
  have ev11W2 : W2.cell? ⟨W1.heap.size + 1, 11, none⟩ = some (.int .i64 25000) := cell_of_block ZvW2.out 11 (by simp)
  have ev12W2 : W2.cell? ⟨W1.heap.size + 1, 12, none⟩ = some (.int .i64 40000000) := cell_of_block ZvW2.out 12 (by simp)
  have lvW2 := (Array.getElem?_eq_some_iff.1 ZvW2.out).1
  go_wp2_with fail
  refine (Calls.grown (HO'.out _ (S2.out))).mono ?_
  rintro e w1 ⟨rfl, z1, rfl⟩
  go_upto_region 3 with (fail)
  obtain ⟨W3, hW3⟩ : ∃ W3, ((gw W2 z1)).alloc (.cells #[.int .i64 900000, .int .i64 950000, .int .i64 50000, .int .i64 100000, .int .i64 32000, .int .i64 65000, .int .i64 24000, .int .i64 49000, .int .i64 24000, .int .i64 49000, .int .i64 24550, .int .i64 25500, .int .i64 40000000] 38) = W3 := ⟨_, rfl⟩
  have hbW3 : Below W2.heap.size W2 W3 := by rw [← hW3]; exact (below_gw W2 z1).alloc (by simp [gw_size]) _
  have ZyW3 := Lib.hid ((hbW3.block _ (Array.getElem?_eq_some_iff.1 ZyW2.out).1).trans ZyW2.out)
  have ZvW3 := Lib.hid ((hbW3.block _ (Array.getElem?_eq_some_iff.1 ZvW2.out).1).trans ZvW2.out)
  have zhW3 : W3.heap[W2.heap.size + z1.bs.size]? = some (.cells #[.int .i64 900000, .int .i64 950000, .int .i64 50000, .int .i64 100000, .int .i64 32000, .int .i64 65000, .int .i64 24000, .int .i64 49000, .int .i64 24000, .int .i64 49000, .int .i64 24550, .int .i64 25500, .int .i64 40000000] 38 (0, 0)) := by rw [← hW3]; exact alloc_at (by simp [gw_size])
  have ZhW3 := Lib.hid zhW3; clear zhW3
  have HBW3 := Lib.hid (thru hbW3 HBW2.out)
  have SBW3 := Lib.hid hbW3; clear hbW3
  have HWW3 := Lib.hid hW3; clear hW3
  rw [HWW3.out]
  clear ey0W2 ey1W2 ey2W2 ey3W2 ey4W2 ey5W2 ey6W2 ey7W2 ev0W2 ev1W2 ev2W2 ev3W2 ev4W2 ev5W2 ev6W2 ev7W2 ev8W2 ev9W2 ev10W2 ev11W2 ev12W2
  have S3 := Lib.hid (S2.out.trans (SBW3.out.mono S2.out.size))
  go_wp2_with fail
  refine (Calls.grown (MA'.out _ (S3.out))).mono ?_
  rintro e w1 ⟨rfl, z2, rfl⟩
  go_upto_region 4 with (fail)
  obtain ⟨W4, hW4⟩ : ∃ W4, (((gw W3 z2)).alloc (.cells #[.int .i64 490, .int .i64 563, .int .i64 2800, .int .i64 3000] 27)).alloc (.cells #[.int .i64 175, .int .i64 225] 23) = W4 := ⟨_, rfl⟩
  have hbW4 : Below W3.heap.size W3 W4 := by rw [← hW4]; exact ((below_gw W3 z2).alloc (by simp [gw_size]) _).alloc (by simp [gw_size] <;> omega) _
  have ZyW4 := Lib.hid ((hbW4.block _ (Array.getElem?_eq_some_iff.1 ZyW3.out).1).trans ZyW3.out)
  have ZvW4 := Lib.hid ((hbW4.block _ (Array.getElem?_eq_some_iff.1 ZvW3.out).1).trans ZvW3.out)
  have ZhW4 := Lib.hid ((hbW4.block _ (Array.getElem?_eq_some_iff.1 ZhW3.out).1).trans ZhW3.out)
  have zoW4 : W4.heap[W3.heap.size + z2.bs.size]? = some (.cells #[.int .i64 490, .int .i64 563, .int .i64 2800, .int .i64 3000] 27 (0, 0)) := by rw [← hW4]; exact alloc_keep (alloc_at (by simp [gw_size]))
  have ZoW4 := Lib.hid zoW4; clear zoW4
  have zlW4 : W4.heap[W3.heap.size + z2.bs.size + 1]? = some (.cells #[.int .i64 175, .int .i64 225] 23 (0, 0)) := by rw [← hW4]; exact alloc_at (by simp [gw_size] <;> omega)
  have ZlW4 := Lib.hid zlW4; clear zlW4
  have HBW4 := Lib.hid (thru hbW4 HBW3.out)
  have SBW4 := Lib.hid hbW4; clear hbW4
  have HWW4 := Lib.hid hW4; clear hW4
  rw [HWW4.out]
  have S4 := Lib.hid (S3.out.trans (SBW4.out.mono S3.out.size))
  have eh0W4 : W4.cell? ⟨W2.heap.size + z1.bs.size, 0, none⟩ = some (.int .i64 900000) := cell_of_block ZhW4.out 0 (by simp)
  have eh1W4 : W4.cell? ⟨W2.heap.size + z1.bs.size, 1, none⟩ = some (.int .i64 950000) := cell_of_block ZhW4.out 1 (by simp)
  have eh2W4 : W4.cell? ⟨W2.heap.size + z1.bs.size, 2, none⟩ = some (.int .i64 50000) := cell_of_block ZhW4.out 2 (by simp)
  have eh3W4 : W4.cell? ⟨W2.heap.size + z1.bs.size, 3, none⟩ = some (.int .i64 100000) := cell_of_block ZhW4.out 3 (by simp)
  have eh4W4 : W4.cell? ⟨W2.heap.size + z1.bs.size, 4, none⟩ = some (.int .i64 32000) := cell_of_block ZhW4.out 4 (by simp)
  have eh5W4 : W4.cell? ⟨W2.heap.size + z1.bs.size, 5, none⟩ = some (.int .i64 65000) := cell_of_block ZhW4.out 5 (by simp)
  have eh6W4 : W4.cell? ⟨W2.heap.size + z1.bs.size, 6, none⟩ = some (.int .i64 24000) := cell_of_block ZhW4.out 6 (by simp)
  have eh7W4 : W4.cell? ⟨W2.heap.size + z1.bs.size, 7, none⟩ = some (.int .i64 49000) := cell_of_block ZhW4.out 7 (by simp)
  have eh8W4 : W4.cell? ⟨W2.heap.size + z1.bs.size, 8, none⟩ = some (.int .i64 24000) := cell_of_block ZhW4.out 8 (by simp)
  have eh9W4 : W4.cell? ⟨W2.heap.size + z1.bs.size, 9, none⟩ = some (.int .i64 49000) := cell_of_block ZhW4.out 9 (by simp)
  have eh10W4 : W4.cell? ⟨W2.heap.size + z1.bs.size, 10, none⟩ = some (.int .i64 24550) := cell_of_block ZhW4.out 10 (by simp)
  have eh11W4 : W4.cell? ⟨W2.heap.size + z1.bs.size, 11, none⟩ = some (.int .i64 25500) := cell_of_block ZhW4.out 11 (by simp)
  have eh12W4 : W4.cell? ⟨W2.heap.size + z1.bs.size, 12, none⟩ = some (.int .i64 40000000) := cell_of_block ZhW4.out 12 (by simp)
  have lhW4 := (Array.getElem?_eq_some_iff.1 ZhW4.out).1
  have eo0W4 : W4.cell? ⟨W3.heap.size + z2.bs.size, 0, none⟩ = some (.int .i64 490) := cell_of_block ZoW4.out 0 (by simp)
  have eo1W4 : W4.cell? ⟨W3.heap.size + z2.bs.size, 1, none⟩ = some (.int .i64 563) := cell_of_block ZoW4.out 1 (by simp)
  have eo2W4 : W4.cell? ⟨W3.heap.size + z2.bs.size, 2, none⟩ = some (.int .i64 2800) := cell_of_block ZoW4.out 2 (by simp)
  have eo3W4 : W4.cell? ⟨W3.heap.size + z2.bs.size, 3, none⟩ = some (.int .i64 3000) := cell_of_block ZoW4.out 3 (by simp)
  have loW4 := (Array.getElem?_eq_some_iff.1 ZoW4.out).1
  go_wp2_with fail
  refine (Calls.grown (VE'.out _ (S4.out))).mono ?_
  rintro e w1 ⟨rfl, z3, rfl⟩
  go_wp2_with fail
  go_ret
  exact ⟨rfl, HBW4.out.gw z3⟩
end Go.Proofs.Ytecbacbecopbeaa
