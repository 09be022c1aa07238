/- Contract of alive: true. No conditions beyond each theorem's own. -/
import Derived.Test.YtljofnmgddfljaaCc
set_option linter.unusedVariables false
set_option linter.unusedSimpArgs false
set_option linter.unusedSectionVars false
set_option linter.constructorNameAsVariable false
namespace Go.Proofs.Ytljofnmgddfljaa
open Go.RowKit

attribute [local go_sem] gw_cell gw_frozen gw_size

theorem samp_fits (bA bW : Nat) (ba bw : List Nat) : (sampC bA bW ba bw).Fits := ⟨by show 2 ≤ _; omega, by show 2 ≤ _; omega, fun i _ => by show 2 ≤ _; omega, fun i _ => by show 2 ≤ _; omega⟩
def sampM : Reg := ⟨10, 999000, 999000, 5900, 5900⟩
theorem samp_err (bA bW : Nat) (ba bw : List Nat) : errH (sampC bA bW ba bw) sampX 2 sampF sampG 12 = 0 := by kernel_rfl
theorem samp_at (bA bW : Nat) (ba bw : List Nat) : atV (sampC bA bW ba bw) sampX 2 sampF sampG 12 = ⟨12, 595209, 595807, 399200, 400000⟩ := by kernel_rfl
theorem samp_meas (bA bW : Nat) (ba bw : List Nat) : measE (sampC bA bW ba bw) sampX 2 sampF sampG sampM = 0 := by kernel_rfl
theorem samp_show (bA bW : Nat) (ba bw : List Nat) : showV (sampC bA bW ba bw) sampX 2 sampF sampG sampM = 2 := by kernel_rfl

set_option maxRecDepth 100000 in
set_option maxHeartbeats 4000000 in
theorem alive_any (w : World) : Calls Try.prog 16 #[] w fun e w' => e = .returned (.bool true) ∧ Below w.heap.size w w' := by
  go_enter Try.func16, Try.ntmps16
  go_wp2_with fail
  refine (sample_any w).mono ?_
  rintro e w1 ⟨bA, bW, ba, bw, bS, rfl, IN, ST, hb⟩
  have HB0 := Lib.hid hb; clear hb
  have AT := fun z (W : World) (hb : Below w1.heap.size w1 W) => At_any (sampC bA bW ba bw) sampX (some ⟨bS, 0, none⟩) 2 2 sampF sampG 12 (gw W z) ((IN.below hb).below (below_gw W z)) (samp_fits _ _ _ _) (by omega) ((ST.below hb).below (below_gw W z))
  have SH := fun z (W : World) (hb : Below w1.heap.size w1 W) => Shows_any (sampC bA bW ba bw) sampX (some ⟨bS, 0, none⟩) 2 2 sampF sampG sampM (gw W z) ((IN.below hb).below (below_gw W z)) (samp_fits _ _ _ _) (by omega) ((ST.below hb).below (below_gw W z))
  rw [samp_err, samp_at] at AT
  rw [samp_meas, samp_show] at SH
  have AT' := Lib.hid AT; clear AT
  have SH' := Lib.hid SH; clear SH IN ST
  unfold Cont.val at *
  unfold sampC sampX at AT'
  unfold Reg.val sampC sampX sampM at SH'
  dsimp only at AT' SH'
  unfold sampX
  dsimp only
  go_upto_region 2 with (fail)
  obtain ⟨W2, hW2⟩ : ∃ W2, (((w1)).alloc (.cells #[.int .i64 10, .slice (some ⟨bA, 0, none⟩) 2 2, .slice (some ⟨bW, 0, none⟩) 2 2] 24)).alloc (.cells #[.int .i64 9, .int .i64 600000, .int .i64 600000, .int .i64 400000, .int .i64 400000] 28) = W2 := ⟨_, rfl⟩
  have hbW2 : Below w1.heap.size w1 W2 := by rw [← hW2]; exact ((Below.refl _ w1).alloc (by simp [gw_size]) _).alloc (by simp [gw_size] <;> omega) _
  have zcW2 : W2.heap[w1.heap.size]? = some (.cells #[.int .i64 10, .slice (some ⟨bA, 0, none⟩) 2 2, .slice (some ⟨bW, 0, none⟩) 2 2] 24 (0, 0)) := by rw [← hW2]; exact alloc_keep (alloc_at (by simp [gw_size]))
  have ZcW2 := Lib.hid zcW2; clear zcW2
  have zxW2 : W2.heap[w1.heap.size + 1]? = some (.cells #[.int .i64 9, .int .i64 600000, .int .i64 600000, .int .i64 400000, .int .i64 400000] 28 (0, 0)) := by rw [← hW2]; exact alloc_at (by simp [gw_size] <;> omega)
  have ZxW2 := Lib.hid zxW2; clear zxW2
  have HBW2 := Lib.hid (thru hbW2 HB0.out)
  have SBW2 := Lib.hid hbW2; clear hbW2
  have HWW2 := Lib.hid hW2; clear hW2
  rw [HWW2.out]
  have ec0W2 : W2.cell? ⟨w1.heap.size, 0, none⟩ = some (.int .i64 10) := cell_of_block ZcW2.out 0 (by simp)
  have ec1W2 : W2.cell? ⟨w1.heap.size, 1, none⟩ = some (.slice (some ⟨bA, 0, none⟩) 2 2) := cell_of_block ZcW2.out 1 (by simp)
  have ec2W2 : W2.cell? ⟨w1.heap.size, 2, none⟩ = some (.slice (some ⟨bW, 0, none⟩) 2 2) := cell_of_block ZcW2.out 2 (by simp)
  have lcW2 := (Array.getElem?_eq_some_iff.1 ZcW2.out).1
  have ex0W2 : W2.cell? ⟨w1.heap.size + 1, 0, none⟩ = some (.int .i64 9) := cell_of_block ZxW2.out 0 (by simp)
  have ex1W2 : W2.cell? ⟨w1.heap.size + 1, 1, none⟩ = some (.int .i64 600000) := cell_of_block ZxW2.out 1 (by simp)
  have ex2W2 : W2.cell? ⟨w1.heap.size + 1, 2, none⟩ = some (.int .i64 600000) := cell_of_block ZxW2.out 2 (by simp)
  have ex3W2 : W2.cell? ⟨w1.heap.size + 1, 3, none⟩ = some (.int .i64 400000) := cell_of_block ZxW2.out 3 (by simp)
  have ex4W2 : W2.cell? ⟨w1.heap.size + 1, 4, none⟩ = some (.int .i64 400000) := cell_of_block ZxW2.out 4 (by simp)
  have lxW2 := (Array.getElem?_eq_some_iff.1 ZxW2.out).1
  have BW := Lib.hid SBW2.out
  have AT2 := Lib.hid (gw_self W2 ▸ AT'.out ⟨#[], W2.drawn⟩ W2 BW.out)
  go_wp2_with fail
  refine (Calls.grown (AT2.out)).mono ?_
  rintro e w1 ⟨rfl, z1, rfl⟩
  go_upto_region 3 with (fail)
  obtain ⟨W3, hW3⟩ : ∃ W3, ((gw W2 z1)).alloc (.cells #[.int .i64 12, .int .i64 595209, .int .i64 595807, .int .i64 399200, .int .i64 400000] 28) = W3 := ⟨_, rfl⟩
  have hbW3 : Below W2.heap.size W2 W3 := by rw [← hW3]; exact (below_gw W2 z1).alloc (by simp [gw_size]) _
  have ZcW3 := Lib.hid ((hbW3.block _ (Array.getElem?_eq_some_iff.1 ZcW2.out).1).trans ZcW2.out)
  have ZxW3 := Lib.hid ((hbW3.block _ (Array.getElem?_eq_some_iff.1 ZxW2.out).1).trans ZxW2.out)
  have zyW3 : W3.heap[W2.heap.size + z1.bs.size]? = some (.cells #[.int .i64 12, .int .i64 595209, .int .i64 595807, .int .i64 399200, .int .i64 400000] 28 (0, 0)) := by rw [← hW3]; exact alloc_at (by simp [gw_size])
  have ZyW3 := Lib.hid zyW3; clear zyW3
  have HBW3 := Lib.hid (thru hbW3 HBW2.out)
  have SBW3 := Lib.hid hbW3; clear hbW3
  have HWW3 := Lib.hid hW3; clear hW3
  rw [HWW3.out]
  clear ec0W2 ec1W2 ec2W2 ex0W2 ex1W2 ex2W2 ex3W2 ex4W2
  have ec0W3 : W3.cell? ⟨w1.heap.size, 0, none⟩ = some (.int .i64 10) := cell_of_block ZcW3.out 0 (by simp)
  have ec1W3 : W3.cell? ⟨w1.heap.size, 1, none⟩ = some (.slice (some ⟨bA, 0, none⟩) 2 2) := cell_of_block ZcW3.out 1 (by simp)
  have ec2W3 : W3.cell? ⟨w1.heap.size, 2, none⟩ = some (.slice (some ⟨bW, 0, none⟩) 2 2) := cell_of_block ZcW3.out 2 (by simp)
  have lcW3 := (Array.getElem?_eq_some_iff.1 ZcW3.out).1
  have ex0W3 : W3.cell? ⟨w1.heap.size + 1, 0, none⟩ = some (.int .i64 9) := cell_of_block ZxW3.out 0 (by simp)
  have ex1W3 : W3.cell? ⟨w1.heap.size + 1, 1, none⟩ = some (.int .i64 600000) := cell_of_block ZxW3.out 1 (by simp)
  have ex2W3 : W3.cell? ⟨w1.heap.size + 1, 2, none⟩ = some (.int .i64 600000) := cell_of_block ZxW3.out 2 (by simp)
  have ex3W3 : W3.cell? ⟨w1.heap.size + 1, 3, none⟩ = some (.int .i64 400000) := cell_of_block ZxW3.out 3 (by simp)
  have ex4W3 : W3.cell? ⟨w1.heap.size + 1, 4, none⟩ = some (.int .i64 400000) := cell_of_block ZxW3.out 4 (by simp)
  have lxW3 := (Array.getElem?_eq_some_iff.1 ZxW3.out).1
  have ey0W3 : W3.cell? ⟨W2.heap.size + z1.bs.size, 0, none⟩ = some (.int .i64 12) := cell_of_block ZyW3.out 0 (by simp)
  have ey1W3 : W3.cell? ⟨W2.heap.size + z1.bs.size, 1, none⟩ = some (.int .i64 595209) := cell_of_block ZyW3.out 1 (by simp)
  have ey2W3 : W3.cell? ⟨W2.heap.size + z1.bs.size, 2, none⟩ = some (.int .i64 595807) := cell_of_block ZyW3.out 2 (by simp)
  have ey3W3 : W3.cell? ⟨W2.heap.size + z1.bs.size, 3, none⟩ = some (.int .i64 399200) := cell_of_block ZyW3.out 3 (by simp)
  have ey4W3 : W3.cell? ⟨W2.heap.size + z1.bs.size, 4, none⟩ = some (.int .i64 400000) := cell_of_block ZyW3.out 4 (by simp)
  have lyW3 := (Array.getElem?_eq_some_iff.1 ZyW3.out).1
  have BW3 := Lib.hid (BW.out.trans (SBW3.out.mono BW.out.size))
  refine wp_region_gw (by kernel_rfl) (by kernel_rfl) ?_
  repeat (go_big_quiet_step (first | (go_at_call 47; exact Calls.gw_of (one_b _ _)) | (go_at_call 24; exact Calls.gw_of (SH'.out _ W3 BW3.out))))
  refine wpQuiet_nil ?_
  rintro _ ⟨z9, rfl⟩
  go_wp2_with fail
  go_ret
  exact ⟨rfl, HBW3.out.gw z9⟩
end Go.Proofs.Ytljofnmgddfljaa
