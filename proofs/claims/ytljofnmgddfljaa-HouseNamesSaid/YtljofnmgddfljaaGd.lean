/- HouseNames walked: it returns true. No conditions beyond each theorem's own. -/
import Derived.Test.YtljofnmgddfljaaFx
import Derived.Test.YtljofnmgddfljaaCg
import Derived.Test.YtljofnmgddfljaaAo
set_option linter.unusedVariables false
set_option linter.unusedSimpArgs false
set_option linter.unusedSectionVars false
set_option linter.constructorNameAsVariable false
namespace Go.Proofs.Ytljofnmgddfljaa
open Go.RowKit

attribute [local go_sem] gw_cell gw_frozen gw_size

section
variable (bA bW : Nat) (ba bw : List Nat)
theorem nm_e9 : errH (sampC bA bW ba bw) sampX 2 sampF sampG 9 = 0 := by kernel_rfl
theorem nm_a9 : atV (sampC bA bW ba bw) sampX 2 sampF sampG 9 = ⟨9, 600000, 600000, 400000, 400000⟩ := by kernel_rfl
theorem nm_e10 : errH (sampC bA bW ba bw) sampX 2 sampF sampG 10 = 0 := by kernel_rfl
theorem nm_a10 : atV (sampC bA bW ba bw) sampX 2 sampF sampG 10 = ⟨10, 598800, 599400, 399600, 400000⟩ := by kernel_rfl
theorem nm_e11 : errH (sampC bA bW ba bw) sampX 2 sampF sampG 11 = 0 := by kernel_rfl
theorem nm_a11 : atV (sampC bA bW ba bw) sampX 2 sampF sampG 11 = ⟨11, 598201, 598801, 399600, 400000⟩ := by kernel_rfl
theorem nm_sx : strV sampX = (6000, 6000) := by kernel_rfl
theorem nm_sxe : strE sampX = 0 := by kernel_rfl
theorem nm_sb : strV ⟨10, 598800, 599400, 399600, 400000⟩ = (5995, 6000) := by kernel_rfl
theorem nm_sbe : strE ⟨10, 598800, 599400, 399600, 400000⟩ = 0 := by kernel_rfl
theorem nm_w1 : weakR (sampC bA bW ba bw) sampX 2 sampF sampG 20 5990 = 12 := by kernel_rfl
theorem nm_w1e : weakF (sampC bA bW ba bw) sampX 2 sampF sampG 20 5990 = 0 := by kernel_rfl
theorem nm_w2 : weakR (sampC bA bW ba bw) sampX 2 sampF sampG 20 5000 = 0 := by kernel_rfl
theorem nm_w2e : weakF (sampC bA bW ba bw) sampX 2 sampF sampG 20 5000 = 12 := by kernel_rfl
theorem nm_m0 : measE (sampC bA bW ba bw) sampX 2 sampF sampG ⟨10, 999000, 999000, 6000, 6000⟩ = 0 := by kernel_rfl
theorem nm_s0 : showV (sampC bA bW ba bw) sampX 2 sampF sampG ⟨10, 999000, 999000, 6000, 6000⟩ = 0 := by kernel_rfl
theorem nm_m1 : measE (sampC bA bW ba bw) sampX 2 sampF sampG ⟨10, 500000, 500000, 6000, 6000⟩ = 0 := by kernel_rfl
theorem nm_s1 : showV (sampC bA bW ba bw) sampX 2 sampF sampG ⟨10, 500000, 500000, 6000, 6000⟩ = 1 := by kernel_rfl
theorem nm_m2 : measE (sampC bA bW ba bw) sampX 2 sampF sampG ⟨10, 999000, 999000, 5900, 5900⟩ = 0 := by kernel_rfl
theorem nm_s2 : showV (sampC bA bW ba bw) sampX 2 sampF sampG ⟨10, 999000, 999000, 5900, 5900⟩ = 2 := by kernel_rfl
theorem nm_m3 : measE (sampC bA bW ba bw) sampX 2 sampF sampG ⟨10, 999000, 999000, 6100, 6100⟩ = 0 := by kernel_rfl
theorem nm_s3 : showV (sampC bA bW ba bw) sampX 2 sampF sampG ⟨10, 999000, 999000, 6100, 6100⟩ = 3 := by kernel_rfl
theorem nm_mm : measV (sampC bA bW ba bw) sampX 2 sampF sampG ⟨10, 998500, 999000, 5995, 5999⟩ = ⟨10, 598800, 599301, 399600, 400000⟩ := by kernel_rfl
theorem nm_mf : measF (sampC bA bW ba bw) sampX 2 sampF sampG ⟨10, 998500, 999000, 5995, 5999⟩ = 0 := by kernel_rfl
theorem nm_f10 : flE (sampC bA bW ba bw) sampX 10 = 0 := by kernel_rfl
theorem nm_c100 : cntB (sampC bA bW ba bw) sampX 10 0 2 = 1 := by kernel_rfl
theorem nm_c101 : cntB (sampC bA bW ba bw) sampX 10 1 2 = 0 := by kernel_rfl
theorem nm_d10 : ∀ j, j < 2 → flD (sampC bA bW ba bw) sampX 10 j = [1, 0].getD j 0 := by
  have i0 := (flI_place (nm_f10 bA bW ba bw) (i := 0) (by show 0 < 2; omega)).2
  have i1 := (flI_place (nm_f10 bA bW ba bw) (i := 1) (by show 1 < 2; omega)).2
  rw [show ((sampC bA bW ba bw)).nA = 2 from rfl, nm_c100] at i0
  rw [show ((sampC bA bW ba bw)).nA = 2 from rfl, nm_c101] at i1
  have e : ∀ j, flD (sampC bA bW ba bw) sampX 10 j = (flI (sampC bA bW ba bw) sampX 10 j : Int) := fun _ => rfl
  intro j hj
  rw [e]
  rcases (by omega : j = 0 ∨ j = 1) with rfl | rfl
  · rw [i1]; rfl
  · rw [i0]; rfl
theorem nm_f20 : flE (sampC bA bW ba bw) sampX 20 = 0 := by kernel_rfl
theorem nm_c200 : cntB (sampC bA bW ba bw) sampX 20 0 2 = 0 := by kernel_rfl
theorem nm_c201 : cntB (sampC bA bW ba bw) sampX 20 1 2 = 1 := by kernel_rfl
theorem nm_d20 : ∀ j, j < 2 → flD (sampC bA bW ba bw) sampX 20 j = [0, 1].getD j 0 := by
  have i0 := (flI_place (nm_f20 bA bW ba bw) (i := 0) (by show 0 < 2; omega)).2
  have i1 := (flI_place (nm_f20 bA bW ba bw) (i := 1) (by show 1 < 2; omega)).2
  rw [show ((sampC bA bW ba bw)).nA = 2 from rfl, nm_c200] at i0
  rw [show ((sampC bA bW ba bw)).nA = 2 from rfl, nm_c201] at i1
  have e : ∀ j, flD (sampC bA bW ba bw) sampX 20 j = (flI (sampC bA bW ba bw) sampX 20 j : Int) := fun _ => rfl
  intro j hj
  rw [e]
  rcases (by omega : j = 0 ∨ j = 1) with rfl | rfl
  · rw [i0]; rfl
  · rw [i1]; rfl
end
theorem ints_lit {w : World} {b : Nat} {x y : Int} {T : TypeId} {D : Nat → Int} (h : w.heap[b]? = some (.cells #[.int .i64 x, .int .i64 y] T (0, 0))) (hD : ∀ j, j < 2 → D j = [x, y].getD j 0) : IntsAt w (some ⟨b, 0, none⟩) 2 D := by
  refine .inr ⟨b, 0, rfl, (Array.getElem?_eq_some_iff.1 h).1, fun j hj => ?_⟩
  rw [hD j hj]
  rcases (by omega : j = 0 ∨ j = 1) with rfl | rfl
  · exact cell_of_block h 0 (by simp)
  · exact cell_of_block h 1 (by simp)

set_option maxRecDepth 100000 in
set_option maxHeartbeats 16000000 in
theorem names_any (w : World) : Calls Try.prog 14 #[] w (True1 w) := by
  go_enter Try.func14, Try.ntmps14
  go_wp2_with fail
  refine (sample_any w).mono ?_
  rintro e W1 ⟨bA, bW, ba, bw, bS, rfl, IN, ST, hb⟩
  have HBc := Lib.hid hb; clear hb
  have FT := samp_fits bA bW ba bw
  have AT9 := fun (W : World) (hb : Below W1.heap.size W1 W) => At_any (sampC bA bW ba bw) sampX (some ⟨bS, 0, none⟩) 2 2 sampF sampG 9 W (IN.below hb) FT (by omega) (ST.below hb)
  rw [nm_e9, nm_a9] at AT9
  unfold Cont.val sampC sampX at AT9
  dsimp only at AT9
  have AT9' := Lib.hid AT9; clear AT9
  have AT10 := fun (W : World) (hb : Below W1.heap.size W1 W) => At_any (sampC bA bW ba bw) sampX (some ⟨bS, 0, none⟩) 2 2 sampF sampG 10 W (IN.below hb) FT (by omega) (ST.below hb)
  rw [nm_e10, nm_a10] at AT10
  unfold Cont.val sampC sampX at AT10
  dsimp only at AT10
  have AT10' := Lib.hid AT10; clear AT10
  have AT11 := fun (W : World) (hb : Below W1.heap.size W1 W) => At_any (sampC bA bW ba bw) sampX (some ⟨bS, 0, none⟩) 2 2 sampF sampG 11 W (IN.below hb) FT (by omega) (ST.below hb)
  rw [nm_e11, nm_a11] at AT11
  unfold Cont.val sampC sampX at AT11
  dsimp only at AT11
  have AT11' := Lib.hid AT11; clear AT11
  have STX := fun (W : World) (hb : Below W1.heap.size W1 W) => Strength_any sampX W
  rw [nm_sx, nm_sxe] at STX
  unfold Cont.val sampX at STX
  dsimp only at STX
  have STX' := Lib.hid STX; clear STX
  have STB := fun (W : World) (hb : Below W1.heap.size W1 W) => Strength_any ⟨10, 598800, 599400, 399600, 400000⟩ W
  rw [nm_sb, nm_sbe] at STB
  unfold Cont.val at STB
  dsimp only at STB
  have STB' := Lib.hid STB; clear STB
  have WKA := fun (W : World) (hb : Below W1.heap.size W1 W) => Weak_any (sampC bA bW ba bw) sampX (some ⟨bS, 0, none⟩) 2 2 sampF sampG 20 5990 W (IN.below hb) FT (by omega) (ST.below hb)
  rw [nm_w1, nm_w1e] at WKA
  unfold Cont.val sampC sampX at WKA
  dsimp only at WKA
  have WKA' := Lib.hid WKA; clear WKA
  have WKB := fun (W : World) (hb : Below W1.heap.size W1 W) => Weak_any (sampC bA bW ba bw) sampX (some ⟨bS, 0, none⟩) 2 2 sampF sampG 20 5000 W (IN.below hb) FT (by omega) (ST.below hb)
  rw [nm_w2, nm_w2e] at WKB
  unfold Cont.val sampC sampX at WKB
  dsimp only at WKB
  have WKB' := Lib.hid WKB; clear WKB
  have SH0 := fun (W : World) (hb : Below W1.heap.size W1 W) => Shows_any (sampC bA bW ba bw) sampX (some ⟨bS, 0, none⟩) 2 2 sampF sampG ⟨10, 999000, 999000, 6000, 6000⟩ W (IN.below hb) FT (by omega) (ST.below hb)
  rw [nm_m0, nm_s0] at SH0
  unfold Cont.val Reg.val sampC sampX at SH0
  dsimp only at SH0
  have SH0' := Lib.hid SH0; clear SH0
  have SH1 := fun (W : World) (hb : Below W1.heap.size W1 W) => Shows_any (sampC bA bW ba bw) sampX (some ⟨bS, 0, none⟩) 2 2 sampF sampG ⟨10, 500000, 500000, 6000, 6000⟩ W (IN.below hb) FT (by omega) (ST.below hb)
  rw [nm_m1, nm_s1] at SH1
  unfold Cont.val Reg.val sampC sampX at SH1
  dsimp only at SH1
  have SH1' := Lib.hid SH1; clear SH1
  have SH2 := fun (W : World) (hb : Below W1.heap.size W1 W) => Shows_any (sampC bA bW ba bw) sampX (some ⟨bS, 0, none⟩) 2 2 sampF sampG ⟨10, 999000, 999000, 5900, 5900⟩ W (IN.below hb) FT (by omega) (ST.below hb)
  rw [nm_m2, nm_s2] at SH2
  unfold Cont.val Reg.val sampC sampX at SH2
  dsimp only at SH2
  have SH2' := Lib.hid SH2; clear SH2
  have SH3 := fun (W : World) (hb : Below W1.heap.size W1 W) => Shows_any (sampC bA bW ba bw) sampX (some ⟨bS, 0, none⟩) 2 2 sampF sampG ⟨10, 999000, 999000, 6100, 6100⟩ W (IN.below hb) FT (by omega) (ST.below hb)
  rw [nm_m3, nm_s3] at SH3
  unfold Cont.val Reg.val sampC sampX at SH3
  dsimp only at SH3
  have SH3' := Lib.hid SH3; clear SH3
  have MEA := fun (W : World) (hb : Below W1.heap.size W1 W) => Measure_any (sampC bA bW ba bw) sampX (some ⟨bS, 0, none⟩) 2 2 sampF sampG ⟨10, 998500, 999000, 5995, 5999⟩ W (IN.below hb) FT (by omega) (ST.below hb)
  rw [nm_mm, nm_mf] at MEA
  unfold Cont.val Reg.val sampC sampX at MEA
  dsimp only at MEA
  have MEA' := Lib.hid MEA; clear MEA
  have FL10 := fun (W : World) (hb : Below W1.heap.size W1 W) => Floors_any (sampC bA bW ba bw) sampX 10 W (IN.below hb) FT
  have fn10 : flN (sampC bA bW ba bw) sampX 10 = 2 := if_pos (nm_f10 _ _ _ _)
  rw [fn10, nm_f10] at FL10
  have DD10 := nm_d10 bA bW ba bw
  generalize flD (sampC bA bW ba bw) sampX 10 = D10 at *
  unfold Cont.val sampC sampX at FL10
  dsimp only at FL10
  have FL10' := Lib.hid FL10; clear FL10
  have HDD10 := Lib.hid DD10; clear DD10 fn10
  have FL20 := fun (W : World) (hb : Below W1.heap.size W1 W) => Floors_any (sampC bA bW ba bw) sampX 20 W (IN.below hb) FT
  have fn20 : flN (sampC bA bW ba bw) sampX 20 = 2 := if_pos (nm_f20 _ _ _ _)
  rw [fn20, nm_f20] at FL20
  have DD20 := nm_d20 bA bW ba bw
  generalize flD (sampC bA bW ba bw) sampX 20 = D20 at *
  unfold Cont.val sampC sampX at FL20
  dsimp only at FL20
  have FL20' := Lib.hid FL20; clear FL20
  have HDD20 := Lib.hid DD20; clear DD20 fn20
  unfold Cont.val sampX
  dsimp only
  clear IN ST FT
  go_upto_region 2 with (fail)
  obtain ⟨W2, hW2⟩ : ∃ W2, (((W1)).alloc (.cells #[.int .i64 10, .slice (some ⟨bA, 0, none⟩) 2 2, .slice (some ⟨bW, 0, none⟩) 2 2] 24)).alloc (.cells #[.int .i64 9, .int .i64 600000, .int .i64 600000, .int .i64 400000, .int .i64 400000] 28) = W2 := ⟨_, rfl⟩
  have hbW2 : Below W1.heap.size W1 W2 := by rw [← hW2]; exact ((Below.refl _ W1).alloc (by simp [gw_size]) _).alloc (by simp [gw_size] <;> omega) _
  have zcW2 : W2.heap[W1.heap.size]? = some (.cells #[.int .i64 10, .slice (some ⟨bA, 0, none⟩) 2 2, .slice (some ⟨bW, 0, none⟩) 2 2] 24 (0, 0)) := by rw [← hW2]; exact alloc_keep (alloc_at (by simp [gw_size]))
  have ZcW2 := Lib.hid zcW2; clear zcW2
  have zxW2 : W2.heap[W1.heap.size + 1]? = some (.cells #[.int .i64 9, .int .i64 600000, .int .i64 600000, .int .i64 400000, .int .i64 400000] 28 (0, 0)) := by rw [← hW2]; exact alloc_at (by simp [gw_size] <;> omega)
  have ZxW2 := Lib.hid zxW2; clear zxW2
  have HBW2 := Lib.hid (thru hbW2 HBc.out)
  have SBW2 := Lib.hid hbW2; clear hbW2
  have HWW2 := Lib.hid hW2; clear hW2
  rw [HWW2.out]
  have S2 := Lib.hid SBW2.out
  have ec0W2 : W2.cell? ⟨W1.heap.size, 0, none⟩ = some (.int .i64 10) := cell_of_block ZcW2.out 0 (by simp)
  have ec1W2 : W2.cell? ⟨W1.heap.size, 1, none⟩ = some (.slice (some ⟨bA, 0, none⟩) 2 2) := cell_of_block ZcW2.out 1 (by simp)
  have ec2W2 : W2.cell? ⟨W1.heap.size, 2, none⟩ = some (.slice (some ⟨bW, 0, none⟩) 2 2) := cell_of_block ZcW2.out 2 (by simp)
  have lcW2 := (Array.getElem?_eq_some_iff.1 ZcW2.out).1
  have ex0W2 : W2.cell? ⟨W1.heap.size + 1, 0, none⟩ = some (.int .i64 9) := cell_of_block ZxW2.out 0 (by simp)
  have ex1W2 : W2.cell? ⟨W1.heap.size + 1, 1, none⟩ = some (.int .i64 600000) := cell_of_block ZxW2.out 1 (by simp)
  have ex2W2 : W2.cell? ⟨W1.heap.size + 1, 2, none⟩ = some (.int .i64 600000) := cell_of_block ZxW2.out 2 (by simp)
  have ex3W2 : W2.cell? ⟨W1.heap.size + 1, 3, none⟩ = some (.int .i64 400000) := cell_of_block ZxW2.out 3 (by simp)
  have ex4W2 : W2.cell? ⟨W1.heap.size + 1, 4, none⟩ = some (.int .i64 400000) := cell_of_block ZxW2.out 4 (by simp)
  have lxW2 := (Array.getElem?_eq_some_iff.1 ZxW2.out).1
  go_wp2_with fail
  refine (Calls.grown (AT9'.out _ (S2.out))).mono ?_
  rintro e w1 ⟨rfl, z1, rfl⟩
  go_upto_region 3 with (fail)
  obtain ⟨W3, hW3⟩ : ∃ W3, ((gw W2 z1)).alloc (.cells #[.int .i64 9, .int .i64 600000, .int .i64 600000, .int .i64 400000, .int .i64 400000] 28) = W3 := ⟨_, rfl⟩
  have hbW3 : Below W2.heap.size W2 W3 := by rw [← hW3]; exact (below_gw W2 z1).alloc (by simp [gw_size]) _
  have ZcW3 := Lib.hid ((hbW3.block _ (Array.getElem?_eq_some_iff.1 ZcW2.out).1).trans ZcW2.out)
  have ZxW3 := Lib.hid ((hbW3.block _ (Array.getElem?_eq_some_iff.1 ZxW2.out).1).trans ZxW2.out)
  have zaW3 : W3.heap[W2.heap.size + z1.bs.size]? = some (.cells #[.int .i64 9, .int .i64 600000, .int .i64 600000, .int .i64 400000, .int .i64 400000] 28 (0, 0)) := by rw [← hW3]; exact alloc_at (by simp [gw_size])
  have ZaW3 := Lib.hid zaW3; clear zaW3
  have HBW3 := Lib.hid (thru hbW3 HBW2.out)
  have SBW3 := Lib.hid hbW3; clear hbW3
  have HWW3 := Lib.hid hW3; clear hW3
  rw [HWW3.out]
  clear ec0W2 ec1W2 ec2W2 ex0W2 ex1W2 ex2W2 ex3W2 ex4W2
  have S3 := Lib.hid (S2.out.trans (SBW3.out.mono S2.out.size))
  have ea0W3 : W3.cell? ⟨W2.heap.size + z1.bs.size, 0, none⟩ = some (.int .i64 9) := cell_of_block ZaW3.out 0 (by simp)
  have ea1W3 : W3.cell? ⟨W2.heap.size + z1.bs.size, 1, none⟩ = some (.int .i64 600000) := cell_of_block ZaW3.out 1 (by simp)
  have ea2W3 : W3.cell? ⟨W2.heap.size + z1.bs.size, 2, none⟩ = some (.int .i64 600000) := cell_of_block ZaW3.out 2 (by simp)
  have ea3W3 : W3.cell? ⟨W2.heap.size + z1.bs.size, 3, none⟩ = some (.int .i64 400000) := cell_of_block ZaW3.out 3 (by simp)
  have ea4W3 : W3.cell? ⟨W2.heap.size + z1.bs.size, 4, none⟩ = some (.int .i64 400000) := cell_of_block ZaW3.out 4 (by simp)
  have laW3 := (Array.getElem?_eq_some_iff.1 ZaW3.out).1
  have ec0W3 : W3.cell? ⟨W1.heap.size, 0, none⟩ = some (.int .i64 10) := cell_of_block ZcW3.out 0 (by simp)
  have ec1W3 : W3.cell? ⟨W1.heap.size, 1, none⟩ = some (.slice (some ⟨bA, 0, none⟩) 2 2) := cell_of_block ZcW3.out 1 (by simp)
  have ec2W3 : W3.cell? ⟨W1.heap.size, 2, none⟩ = some (.slice (some ⟨bW, 0, none⟩) 2 2) := cell_of_block ZcW3.out 2 (by simp)
  have lcW3 := (Array.getElem?_eq_some_iff.1 ZcW3.out).1
  have ex0W3 : W3.cell? ⟨W1.heap.size + 1, 0, none⟩ = some (.int .i64 9) := cell_of_block ZxW3.out 0 (by simp)
  have ex1W3 : W3.cell? ⟨W1.heap.size + 1, 1, none⟩ = some (.int .i64 600000) := cell_of_block ZxW3.out 1 (by simp)
  have ex2W3 : W3.cell? ⟨W1.heap.size + 1, 2, none⟩ = some (.int .i64 600000) := cell_of_block ZxW3.out 2 (by simp)
  have ex3W3 : W3.cell? ⟨W1.heap.size + 1, 3, none⟩ = some (.int .i64 400000) := cell_of_block ZxW3.out 3 (by simp)
  have ex4W3 : W3.cell? ⟨W1.heap.size + 1, 4, none⟩ = some (.int .i64 400000) := cell_of_block ZxW3.out 4 (by simp)
  have lxW3 := (Array.getElem?_eq_some_iff.1 ZxW3.out).1
  go_wp2_with fail
  refine (Calls.grown (AT10'.out _ (S3.out))).mono ?_
  rintro e w1 ⟨rfl, z2, rfl⟩
  go_upto_region 4 with (fail)
  obtain ⟨W4, hW4⟩ : ∃ W4, ((gw W3 z2)).alloc (.cells #[.int .i64 10, .int .i64 598800, .int .i64 599400, .int .i64 399600, .int .i64 400000] 28) = W4 := ⟨_, rfl⟩
  have hbW4 : Below W3.heap.size W3 W4 := by rw [← hW4]; exact (below_gw W3 z2).alloc (by simp [gw_size]) _
  have ZcW4 := Lib.hid ((hbW4.block _ (Array.getElem?_eq_some_iff.1 ZcW3.out).1).trans ZcW3.out)
  have ZxW4 := Lib.hid ((hbW4.block _ (Array.getElem?_eq_some_iff.1 ZxW3.out).1).trans ZxW3.out)
  have ZaW4 := Lib.hid ((hbW4.block _ (Array.getElem?_eq_some_iff.1 ZaW3.out).1).trans ZaW3.out)
  have zbW4 : W4.heap[W3.heap.size + z2.bs.size]? = some (.cells #[.int .i64 10, .int .i64 598800, .int .i64 599400, .int .i64 399600, .int .i64 400000] 28 (0, 0)) := by rw [← hW4]; exact alloc_at (by simp [gw_size])
  have ZbW4 := Lib.hid zbW4; clear zbW4
  have HBW4 := Lib.hid (thru hbW4 HBW3.out)
  have SBW4 := Lib.hid hbW4; clear hbW4
  have HWW4 := Lib.hid hW4; clear hW4
  rw [HWW4.out]
  clear ec0W3 ec1W3 ec2W3 ex0W3 ex1W3 ex2W3 ex3W3 ex4W3 ea0W3 ea1W3 ea2W3 ea3W3 ea4W3
  have S4 := Lib.hid (S3.out.trans (SBW4.out.mono S3.out.size))
  have eb0W4 : W4.cell? ⟨W3.heap.size + z2.bs.size, 0, none⟩ = some (.int .i64 10) := cell_of_block ZbW4.out 0 (by simp)
  have eb1W4 : W4.cell? ⟨W3.heap.size + z2.bs.size, 1, none⟩ = some (.int .i64 598800) := cell_of_block ZbW4.out 1 (by simp)
  have eb2W4 : W4.cell? ⟨W3.heap.size + z2.bs.size, 2, none⟩ = some (.int .i64 599400) := cell_of_block ZbW4.out 2 (by simp)
  have eb3W4 : W4.cell? ⟨W3.heap.size + z2.bs.size, 3, none⟩ = some (.int .i64 399600) := cell_of_block ZbW4.out 3 (by simp)
  have eb4W4 : W4.cell? ⟨W3.heap.size + z2.bs.size, 4, none⟩ = some (.int .i64 400000) := cell_of_block ZbW4.out 4 (by simp)
  have lbW4 := (Array.getElem?_eq_some_iff.1 ZbW4.out).1
  have ec0W4 : W4.cell? ⟨W1.heap.size, 0, none⟩ = some (.int .i64 10) := cell_of_block ZcW4.out 0 (by simp)
  have ec1W4 : W4.cell? ⟨W1.heap.size, 1, none⟩ = some (.slice (some ⟨bA, 0, none⟩) 2 2) := cell_of_block ZcW4.out 1 (by simp)
  have ec2W4 : W4.cell? ⟨W1.heap.size, 2, none⟩ = some (.slice (some ⟨bW, 0, none⟩) 2 2) := cell_of_block ZcW4.out 2 (by simp)
  have lcW4 := (Array.getElem?_eq_some_iff.1 ZcW4.out).1
  have ex0W4 : W4.cell? ⟨W1.heap.size + 1, 0, none⟩ = some (.int .i64 9) := cell_of_block ZxW4.out 0 (by simp)
  have ex1W4 : W4.cell? ⟨W1.heap.size + 1, 1, none⟩ = some (.int .i64 600000) := cell_of_block ZxW4.out 1 (by simp)
  have ex2W4 : W4.cell? ⟨W1.heap.size + 1, 2, none⟩ = some (.int .i64 600000) := cell_of_block ZxW4.out 2 (by simp)
  have ex3W4 : W4.cell? ⟨W1.heap.size + 1, 3, none⟩ = some (.int .i64 400000) := cell_of_block ZxW4.out 3 (by simp)
  have ex4W4 : W4.cell? ⟨W1.heap.size + 1, 4, none⟩ = some (.int .i64 400000) := cell_of_block ZxW4.out 4 (by simp)
  have lxW4 := (Array.getElem?_eq_some_iff.1 ZxW4.out).1
  have ea0W4 : W4.cell? ⟨W2.heap.size + z1.bs.size, 0, none⟩ = some (.int .i64 9) := cell_of_block ZaW4.out 0 (by simp)
  have ea1W4 : W4.cell? ⟨W2.heap.size + z1.bs.size, 1, none⟩ = some (.int .i64 600000) := cell_of_block ZaW4.out 1 (by simp)
  have ea2W4 : W4.cell? ⟨W2.heap.size + z1.bs.size, 2, none⟩ = some (.int .i64 600000) := cell_of_block ZaW4.out 2 (by simp)
  have ea3W4 : W4.cell? ⟨W2.heap.size + z1.bs.size, 3, none⟩ = some (.int .i64 400000) := cell_of_block ZaW4.out 3 (by simp)
  have ea4W4 : W4.cell? ⟨W2.heap.size + z1.bs.size, 4, none⟩ = some (.int .i64 400000) := cell_of_block ZaW4.out 4 (by simp)
  have laW4 := (Array.getElem?_eq_some_iff.1 ZaW4.out).1
  go_wp2_with fail
  refine (Calls.grown (AT11'.out _ (S4.out))).mono ?_
  rintro e w1 ⟨rfl, z3, rfl⟩
  go_upto_region 5 with (fail)
  obtain ⟨W5, hW5⟩ : ∃ W5, ((gw W4 z3)).alloc (.cells #[.int .i64 11, .int .i64 598201, .int .i64 598801, .int .i64 399600, .int .i64 400000] 28) = W5 := ⟨_, rfl⟩
  have hbW5 : Below W4.heap.size W4 W5 := by rw [← hW5]; exact (below_gw W4 z3).alloc (by simp [gw_size]) _
  have ZcW5 := Lib.hid ((hbW5.block _ (Array.getElem?_eq_some_iff.1 ZcW4.out).1).trans ZcW4.out)
  have ZxW5 := Lib.hid ((hbW5.block _ (Array.getElem?_eq_some_iff.1 ZxW4.out).1).trans ZxW4.out)
  have ZaW5 := Lib.hid ((hbW5.block _ (Array.getElem?_eq_some_iff.1 ZaW4.out).1).trans ZaW4.out)
  have ZbW5 := Lib.hid ((hbW5.block _ (Array.getElem?_eq_some_iff.1 ZbW4.out).1).trans ZbW4.out)
  have zdW5 : W5.heap[W4.heap.size + z3.bs.size]? = some (.cells #[.int .i64 11, .int .i64 598201, .int .i64 598801, .int .i64 399600, .int .i64 400000] 28 (0, 0)) := by rw [← hW5]; exact alloc_at (by simp [gw_size])
  have ZdW5 := Lib.hid zdW5; clear zdW5
  have HBW5 := Lib.hid (thru hbW5 HBW4.out)
  have SBW5 := Lib.hid hbW5; clear hbW5
  have HWW5 := Lib.hid hW5; clear hW5
  rw [HWW5.out]
  clear ec0W4 ec1W4 ec2W4 ex0W4 ex1W4 ex2W4 ex3W4 ex4W4 ea0W4 ea1W4 ea2W4 ea3W4 ea4W4 eb0W4 eb1W4 eb2W4 eb3W4 eb4W4
  have S5 := Lib.hid (S4.out.trans (SBW5.out.mono S4.out.size))
  have ed0W5 : W5.cell? ⟨W4.heap.size + z3.bs.size, 0, none⟩ = some (.int .i64 11) := cell_of_block ZdW5.out 0 (by simp)
  have ed1W5 : W5.cell? ⟨W4.heap.size + z3.bs.size, 1, none⟩ = some (.int .i64 598201) := cell_of_block ZdW5.out 1 (by simp)
  have ed2W5 : W5.cell? ⟨W4.heap.size + z3.bs.size, 2, none⟩ = some (.int .i64 598801) := cell_of_block ZdW5.out 2 (by simp)
  have ed3W5 : W5.cell? ⟨W4.heap.size + z3.bs.size, 3, none⟩ = some (.int .i64 399600) := cell_of_block ZdW5.out 3 (by simp)
  have ed4W5 : W5.cell? ⟨W4.heap.size + z3.bs.size, 4, none⟩ = some (.int .i64 400000) := cell_of_block ZdW5.out 4 (by simp)
  have ldW5 := (Array.getElem?_eq_some_iff.1 ZdW5.out).1
  have ec0W5 : W5.cell? ⟨W1.heap.size, 0, none⟩ = some (.int .i64 10) := cell_of_block ZcW5.out 0 (by simp)
  have ec1W5 : W5.cell? ⟨W1.heap.size, 1, none⟩ = some (.slice (some ⟨bA, 0, none⟩) 2 2) := cell_of_block ZcW5.out 1 (by simp)
  have ec2W5 : W5.cell? ⟨W1.heap.size, 2, none⟩ = some (.slice (some ⟨bW, 0, none⟩) 2 2) := cell_of_block ZcW5.out 2 (by simp)
  have lcW5 := (Array.getElem?_eq_some_iff.1 ZcW5.out).1
  have ex0W5 : W5.cell? ⟨W1.heap.size + 1, 0, none⟩ = some (.int .i64 9) := cell_of_block ZxW5.out 0 (by simp)
  have ex1W5 : W5.cell? ⟨W1.heap.size + 1, 1, none⟩ = some (.int .i64 600000) := cell_of_block ZxW5.out 1 (by simp)
  have ex2W5 : W5.cell? ⟨W1.heap.size + 1, 2, none⟩ = some (.int .i64 600000) := cell_of_block ZxW5.out 2 (by simp)
  have ex3W5 : W5.cell? ⟨W1.heap.size + 1, 3, none⟩ = some (.int .i64 400000) := cell_of_block ZxW5.out 3 (by simp)
  have ex4W5 : W5.cell? ⟨W1.heap.size + 1, 4, none⟩ = some (.int .i64 400000) := cell_of_block ZxW5.out 4 (by simp)
  have lxW5 := (Array.getElem?_eq_some_iff.1 ZxW5.out).1
  have ea0W5 : W5.cell? ⟨W2.heap.size + z1.bs.size, 0, none⟩ = some (.int .i64 9) := cell_of_block ZaW5.out 0 (by simp)
  have ea1W5 : W5.cell? ⟨W2.heap.size + z1.bs.size, 1, none⟩ = some (.int .i64 600000) := cell_of_block ZaW5.out 1 (by simp)
  have ea2W5 : W5.cell? ⟨W2.heap.size + z1.bs.size, 2, none⟩ = some (.int .i64 600000) := cell_of_block ZaW5.out 2 (by simp)
  have ea3W5 : W5.cell? ⟨W2.heap.size + z1.bs.size, 3, none⟩ = some (.int .i64 400000) := cell_of_block ZaW5.out 3 (by simp)
  have ea4W5 : W5.cell? ⟨W2.heap.size + z1.bs.size, 4, none⟩ = some (.int .i64 400000) := cell_of_block ZaW5.out 4 (by simp)
  have laW5 := (Array.getElem?_eq_some_iff.1 ZaW5.out).1
  have eb0W5 : W5.cell? ⟨W3.heap.size + z2.bs.size, 0, none⟩ = some (.int .i64 10) := cell_of_block ZbW5.out 0 (by simp)
  have eb1W5 : W5.cell? ⟨W3.heap.size + z2.bs.size, 1, none⟩ = some (.int .i64 598800) := cell_of_block ZbW5.out 1 (by simp)
  have eb2W5 : W5.cell? ⟨W3.heap.size + z2.bs.size, 2, none⟩ = some (.int .i64 599400) := cell_of_block ZbW5.out 2 (by simp)
  have eb3W5 : W5.cell? ⟨W3.heap.size + z2.bs.size, 3, none⟩ = some (.int .i64 399600) := cell_of_block ZbW5.out 3 (by simp)
  have eb4W5 : W5.cell? ⟨W3.heap.size + z2.bs.size, 4, none⟩ = some (.int .i64 400000) := cell_of_block ZbW5.out 4 (by simp)
  have lbW5 := (Array.getElem?_eq_some_iff.1 ZbW5.out).1
  go_wp2_with fail
  refine (Calls.grown (STX'.out _ (S5.out))).mono ?_
  rintro e w1 ⟨rfl, z4, rfl⟩
  go_upto_region 7 with (fail)
  obtain ⟨W6, hW6⟩ : ∃ W6, ((gw W5 z4)).alloc (.cells #[.int .i64 6000, .int .i64 6000] 26) = W6 := ⟨_, rfl⟩
  have hbW6 : Below W5.heap.size W5 W6 := by rw [← hW6]; exact (below_gw W5 z4).alloc (by simp [gw_size]) _
  have ZcW6 := Lib.hid ((hbW6.block _ (Array.getElem?_eq_some_iff.1 ZcW5.out).1).trans ZcW5.out)
  have ZxW6 := Lib.hid ((hbW6.block _ (Array.getElem?_eq_some_iff.1 ZxW5.out).1).trans ZxW5.out)
  have ZaW6 := Lib.hid ((hbW6.block _ (Array.getElem?_eq_some_iff.1 ZaW5.out).1).trans ZaW5.out)
  have ZbW6 := Lib.hid ((hbW6.block _ (Array.getElem?_eq_some_iff.1 ZbW5.out).1).trans ZbW5.out)
  have ZdW6 := Lib.hid ((hbW6.block _ (Array.getElem?_eq_some_iff.1 ZdW5.out).1).trans ZdW5.out)
  have zsW6 : W6.heap[W5.heap.size + z4.bs.size]? = some (.cells #[.int .i64 6000, .int .i64 6000] 26 (0, 0)) := by rw [← hW6]; exact alloc_at (by simp [gw_size])
  have ZsW6 := Lib.hid zsW6; clear zsW6
  have HBW6 := Lib.hid (thru hbW6 HBW5.out)
  have SBW6 := Lib.hid hbW6; clear hbW6
  have HWW6 := Lib.hid hW6; clear hW6
  rw [HWW6.out]
  clear ec0W5 ec1W5 ec2W5 ex0W5 ex1W5 ex2W5 ex3W5 ex4W5 ea0W5 ea1W5 ea2W5 ea3W5 ea4W5 eb0W5 eb1W5 eb2W5 eb3W5 eb4W5 ed0W5 ed1W5 ed2W5 ed3W5 ed4W5
  have S6 := Lib.hid (S5.out.trans (SBW6.out.mono S5.out.size))
  have es0W6 : W6.cell? ⟨W5.heap.size + z4.bs.size, 0, none⟩ = some (.int .i64 6000) := cell_of_block ZsW6.out 0 (by simp)
  have es1W6 : W6.cell? ⟨W5.heap.size + z4.bs.size, 1, none⟩ = some (.int .i64 6000) := cell_of_block ZsW6.out 1 (by simp)
  have lsW6 := (Array.getElem?_eq_some_iff.1 ZsW6.out).1
  have ec0W6 : W6.cell? ⟨W1.heap.size, 0, none⟩ = some (.int .i64 10) := cell_of_block ZcW6.out 0 (by simp)
  have ec1W6 : W6.cell? ⟨W1.heap.size, 1, none⟩ = some (.slice (some ⟨bA, 0, none⟩) 2 2) := cell_of_block ZcW6.out 1 (by simp)
  have ec2W6 : W6.cell? ⟨W1.heap.size, 2, none⟩ = some (.slice (some ⟨bW, 0, none⟩) 2 2) := cell_of_block ZcW6.out 2 (by simp)
  have lcW6 := (Array.getElem?_eq_some_iff.1 ZcW6.out).1
  have ex0W6 : W6.cell? ⟨W1.heap.size + 1, 0, none⟩ = some (.int .i64 9) := cell_of_block ZxW6.out 0 (by simp)
  have ex1W6 : W6.cell? ⟨W1.heap.size + 1, 1, none⟩ = some (.int .i64 600000) := cell_of_block ZxW6.out 1 (by simp)
  have ex2W6 : W6.cell? ⟨W1.heap.size + 1, 2, none⟩ = some (.int .i64 600000) := cell_of_block ZxW6.out 2 (by simp)
  have ex3W6 : W6.cell? ⟨W1.heap.size + 1, 3, none⟩ = some (.int .i64 400000) := cell_of_block ZxW6.out 3 (by simp)
  have ex4W6 : W6.cell? ⟨W1.heap.size + 1, 4, none⟩ = some (.int .i64 400000) := cell_of_block ZxW6.out 4 (by simp)
  have lxW6 := (Array.getElem?_eq_some_iff.1 ZxW6.out).1
  have ea0W6 : W6.cell? ⟨W2.heap.size + z1.bs.size, 0, none⟩ = some (.int .i64 9) := cell_of_block ZaW6.out 0 (by simp)
  have ea1W6 : W6.cell? ⟨W2.heap.size + z1.bs.size, 1, none⟩ = some (.int .i64 600000) := cell_of_block ZaW6.out 1 (by simp)
  have ea2W6 : W6.cell? ⟨W2.heap.size + z1.bs.size, 2, none⟩ = some (.int .i64 600000) := cell_of_block ZaW6.out 2 (by simp)
  have ea3W6 : W6.cell? ⟨W2.heap.size + z1.bs.size, 3, none⟩ = some (.int .i64 400000) := cell_of_block ZaW6.out 3 (by simp)
  have ea4W6 : W6.cell? ⟨W2.heap.size + z1.bs.size, 4, none⟩ = some (.int .i64 400000) := cell_of_block ZaW6.out 4 (by simp)
  have laW6 := (Array.getElem?_eq_some_iff.1 ZaW6.out).1
  have eb0W6 : W6.cell? ⟨W3.heap.size + z2.bs.size, 0, none⟩ = some (.int .i64 10) := cell_of_block ZbW6.out 0 (by simp)
  have eb1W6 : W6.cell? ⟨W3.heap.size + z2.bs.size, 1, none⟩ = some (.int .i64 598800) := cell_of_block ZbW6.out 1 (by simp)
  have eb2W6 : W6.cell? ⟨W3.heap.size + z2.bs.size, 2, none⟩ = some (.int .i64 599400) := cell_of_block ZbW6.out 2 (by simp)
  have eb3W6 : W6.cell? ⟨W3.heap.size + z2.bs.size, 3, none⟩ = some (.int .i64 399600) := cell_of_block ZbW6.out 3 (by simp)
  have eb4W6 : W6.cell? ⟨W3.heap.size + z2.bs.size, 4, none⟩ = some (.int .i64 400000) := cell_of_block ZbW6.out 4 (by simp)
  have lbW6 := (Array.getElem?_eq_some_iff.1 ZbW6.out).1
  have ed0W6 : W6.cell? ⟨W4.heap.size + z3.bs.size, 0, none⟩ = some (.int .i64 11) := cell_of_block ZdW6.out 0 (by simp)
  have ed1W6 : W6.cell? ⟨W4.heap.size + z3.bs.size, 1, none⟩ = some (.int .i64 598201) := cell_of_block ZdW6.out 1 (by simp)
  have ed2W6 : W6.cell? ⟨W4.heap.size + z3.bs.size, 2, none⟩ = some (.int .i64 598801) := cell_of_block ZdW6.out 2 (by simp)
  have ed3W6 : W6.cell? ⟨W4.heap.size + z3.bs.size, 3, none⟩ = some (.int .i64 399600) := cell_of_block ZdW6.out 3 (by simp)
  have ed4W6 : W6.cell? ⟨W4.heap.size + z3.bs.size, 4, none⟩ = some (.int .i64 400000) := cell_of_block ZdW6.out 4 (by simp)
  have ldW6 := (Array.getElem?_eq_some_iff.1 ZdW6.out).1
  go_wp2_with fail
  refine (Calls.grown (STB'.out _ (S6.out))).mono ?_
  rintro e w1 ⟨rfl, z5, rfl⟩
  go_upto_region 8 with (fail)
  obtain ⟨W7, hW7⟩ : ∃ W7, ((gw W6 z5)).alloc (.cells #[.int .i64 5995, .int .i64 6000] 26) = W7 := ⟨_, rfl⟩
  have hbW7 : Below W6.heap.size W6 W7 := by rw [← hW7]; exact (below_gw W6 z5).alloc (by simp [gw_size]) _
  have ZcW7 := Lib.hid ((hbW7.block _ (Array.getElem?_eq_some_iff.1 ZcW6.out).1).trans ZcW6.out)
  have ZxW7 := Lib.hid ((hbW7.block _ (Array.getElem?_eq_some_iff.1 ZxW6.out).1).trans ZxW6.out)
  have ZaW7 := Lib.hid ((hbW7.block _ (Array.getElem?_eq_some_iff.1 ZaW6.out).1).trans ZaW6.out)
  have ZbW7 := Lib.hid ((hbW7.block _ (Array.getElem?_eq_some_iff.1 ZbW6.out).1).trans ZbW6.out)
  have ZdW7 := Lib.hid ((hbW7.block _ (Array.getElem?_eq_some_iff.1 ZdW6.out).1).trans ZdW6.out)
  have ZsW7 := Lib.hid ((hbW7.block _ (Array.getElem?_eq_some_iff.1 ZsW6.out).1).trans ZsW6.out)
  have ztW7 : W7.heap[W6.heap.size + z5.bs.size]? = some (.cells #[.int .i64 5995, .int .i64 6000] 26 (0, 0)) := by rw [← hW7]; exact alloc_at (by simp [gw_size])
  have ZtW7 := Lib.hid ztW7; clear ztW7
  have HBW7 := Lib.hid (thru hbW7 HBW6.out)
  have SBW7 := Lib.hid hbW7; clear hbW7
  have HWW7 := Lib.hid hW7; clear hW7
  rw [HWW7.out]
  clear ec0W6 ec1W6 ec2W6 ex0W6 ex1W6 ex2W6 ex3W6 ex4W6 ea0W6 ea1W6 ea2W6 ea3W6 ea4W6 eb0W6 eb1W6 eb2W6 eb3W6 eb4W6 ed0W6 ed1W6 ed2W6 ed3W6 ed4W6 es0W6 es1W6
  have S7 := Lib.hid (S6.out.trans (SBW7.out.mono S6.out.size))
  have et0W7 : W7.cell? ⟨W6.heap.size + z5.bs.size, 0, none⟩ = some (.int .i64 5995) := cell_of_block ZtW7.out 0 (by simp)
  have et1W7 : W7.cell? ⟨W6.heap.size + z5.bs.size, 1, none⟩ = some (.int .i64 6000) := cell_of_block ZtW7.out 1 (by simp)
  have ltW7 := (Array.getElem?_eq_some_iff.1 ZtW7.out).1
  have ec0W7 : W7.cell? ⟨W1.heap.size, 0, none⟩ = some (.int .i64 10) := cell_of_block ZcW7.out 0 (by simp)
  have ec1W7 : W7.cell? ⟨W1.heap.size, 1, none⟩ = some (.slice (some ⟨bA, 0, none⟩) 2 2) := cell_of_block ZcW7.out 1 (by simp)
  have ec2W7 : W7.cell? ⟨W1.heap.size, 2, none⟩ = some (.slice (some ⟨bW, 0, none⟩) 2 2) := cell_of_block ZcW7.out 2 (by simp)
  have lcW7 := (Array.getElem?_eq_some_iff.1 ZcW7.out).1
  have ex0W7 : W7.cell? ⟨W1.heap.size + 1, 0, none⟩ = some (.int .i64 9) := cell_of_block ZxW7.out 0 (by simp)
  have ex1W7 : W7.cell? ⟨W1.heap.size + 1, 1, none⟩ = some (.int .i64 600000) := cell_of_block ZxW7.out 1 (by simp)
  have ex2W7 : W7.cell? ⟨W1.heap.size + 1, 2, none⟩ = some (.int .i64 600000) := cell_of_block ZxW7.out 2 (by simp)
  have ex3W7 : W7.cell? ⟨W1.heap.size + 1, 3, none⟩ = some (.int .i64 400000) := cell_of_block ZxW7.out 3 (by simp)
  have ex4W7 : W7.cell? ⟨W1.heap.size + 1, 4, none⟩ = some (.int .i64 400000) := cell_of_block ZxW7.out 4 (by simp)
  have lxW7 := (Array.getElem?_eq_some_iff.1 ZxW7.out).1
  have ea0W7 : W7.cell? ⟨W2.heap.size + z1.bs.size, 0, none⟩ = some (.int .i64 9) := cell_of_block ZaW7.out 0 (by simp)
  have ea1W7 : W7.cell? ⟨W2.heap.size + z1.bs.size, 1, none⟩ = some (.int .i64 600000) := cell_of_block ZaW7.out 1 (by simp)
  have ea2W7 : W7.cell? ⟨W2.heap.size + z1.bs.size, 2, none⟩ = some (.int .i64 600000) := cell_of_block ZaW7.out 2 (by simp)
  have ea3W7 : W7.cell? ⟨W2.heap.size + z1.bs.size, 3, none⟩ = some (.int .i64 400000) := cell_of_block ZaW7.out 3 (by simp)
  have ea4W7 : W7.cell? ⟨W2.heap.size + z1.bs.size, 4, none⟩ = some (.int .i64 400000) := cell_of_block ZaW7.out 4 (by simp)
  have laW7 := (Array.getElem?_eq_some_iff.1 ZaW7.out).1
  have eb0W7 : W7.cell? ⟨W3.heap.size + z2.bs.size, 0, none⟩ = some (.int .i64 10) := cell_of_block ZbW7.out 0 (by simp)
  have eb1W7 : W7.cell? ⟨W3.heap.size + z2.bs.size, 1, none⟩ = some (.int .i64 598800) := cell_of_block ZbW7.out 1 (by simp)
  have eb2W7 : W7.cell? ⟨W3.heap.size + z2.bs.size, 2, none⟩ = some (.int .i64 599400) := cell_of_block ZbW7.out 2 (by simp)
  have eb3W7 : W7.cell? ⟨W3.heap.size + z2.bs.size, 3, none⟩ = some (.int .i64 399600) := cell_of_block ZbW7.out 3 (by simp)
  have eb4W7 : W7.cell? ⟨W3.heap.size + z2.bs.size, 4, none⟩ = some (.int .i64 400000) := cell_of_block ZbW7.out 4 (by simp)
  have lbW7 := (Array.getElem?_eq_some_iff.1 ZbW7.out).1
  have ed0W7 : W7.cell? ⟨W4.heap.size + z3.bs.size, 0, none⟩ = some (.int .i64 11) := cell_of_block ZdW7.out 0 (by simp)
  have ed1W7 : W7.cell? ⟨W4.heap.size + z3.bs.size, 1, none⟩ = some (.int .i64 598201) := cell_of_block ZdW7.out 1 (by simp)
  have ed2W7 : W7.cell? ⟨W4.heap.size + z3.bs.size, 2, none⟩ = some (.int .i64 598801) := cell_of_block ZdW7.out 2 (by simp)
  have ed3W7 : W7.cell? ⟨W4.heap.size + z3.bs.size, 3, none⟩ = some (.int .i64 399600) := cell_of_block ZdW7.out 3 (by simp)
  have ed4W7 : W7.cell? ⟨W4.heap.size + z3.bs.size, 4, none⟩ = some (.int .i64 400000) := cell_of_block ZdW7.out 4 (by simp)
  have ldW7 := (Array.getElem?_eq_some_iff.1 ZdW7.out).1
  have es0W7 : W7.cell? ⟨W5.heap.size + z4.bs.size, 0, none⟩ = some (.int .i64 6000) := cell_of_block ZsW7.out 0 (by simp)
  have es1W7 : W7.cell? ⟨W5.heap.size + z4.bs.size, 1, none⟩ = some (.int .i64 6000) := cell_of_block ZsW7.out 1 (by simp)
  have lsW7 := (Array.getElem?_eq_some_iff.1 ZsW7.out).1
  go_wp2_with fail
  refine (Calls.grown (WKA'.out _ (S7.out))).mono ?_
  rintro e w1 ⟨rfl, z6, rfl⟩
  go_wp2_with fail
  refine (Calls.gw_of (WKB'.out _ (S7.out.trans ((below_gw W7 z6).mono S7.out.size)))).mono ?_
  rintro e w1 ⟨rfl, z7, rfl⟩
  go_upto_region 11 with (fail)
  obtain ⟨W8, hW8⟩ : ∃ W8, ((gw W7 z7)).alloc (.cells #[.int .i64 999000, .int .i64 6000, .int .i64 0, .int .i64 500000, .int .i64 6000, .int .i64 1, .int .i64 999000, .int .i64 5900, .int .i64 2, .int .i64 999000, .int .i64 6100, .int .i64 3] 85) = W8 := ⟨_, rfl⟩
  have hbW8 : Below W7.heap.size W7 W8 := by rw [← hW8]; exact (below_gw W7 z7).alloc (by simp [gw_size]) _
  have ZcW8 := Lib.hid ((hbW8.block _ (Array.getElem?_eq_some_iff.1 ZcW7.out).1).trans ZcW7.out)
  have ZxW8 := Lib.hid ((hbW8.block _ (Array.getElem?_eq_some_iff.1 ZxW7.out).1).trans ZxW7.out)
  have ZaW8 := Lib.hid ((hbW8.block _ (Array.getElem?_eq_some_iff.1 ZaW7.out).1).trans ZaW7.out)
  have ZbW8 := Lib.hid ((hbW8.block _ (Array.getElem?_eq_some_iff.1 ZbW7.out).1).trans ZbW7.out)
  have ZdW8 := Lib.hid ((hbW8.block _ (Array.getElem?_eq_some_iff.1 ZdW7.out).1).trans ZdW7.out)
  have ZsW8 := Lib.hid ((hbW8.block _ (Array.getElem?_eq_some_iff.1 ZsW7.out).1).trans ZsW7.out)
  have ZtW8 := Lib.hid ((hbW8.block _ (Array.getElem?_eq_some_iff.1 ZtW7.out).1).trans ZtW7.out)
  have zqW8 : W8.heap[W7.heap.size + z7.bs.size]? = some (.cells #[.int .i64 999000, .int .i64 6000, .int .i64 0, .int .i64 500000, .int .i64 6000, .int .i64 1, .int .i64 999000, .int .i64 5900, .int .i64 2, .int .i64 999000, .int .i64 6100, .int .i64 3] 85 (0, 0)) := by rw [← hW8]; exact alloc_at (by simp [gw_size])
  have ZqW8 := Lib.hid zqW8; clear zqW8
  have HBW8 := Lib.hid (thru hbW8 HBW7.out)
  have SBW8 := Lib.hid hbW8; clear hbW8
  have HWW8 := Lib.hid hW8; clear hW8
  rw [HWW8.out]
  clear ec0W7 ec1W7 ec2W7 ex0W7 ex1W7 ex2W7 ex3W7 ex4W7 ea0W7 ea1W7 ea2W7 ea3W7 ea4W7 eb0W7 eb1W7 eb2W7 eb3W7 eb4W7 ed0W7 ed1W7 ed2W7 ed3W7 ed4W7 es0W7 es1W7 et0W7 et1W7
  have S8 := Lib.hid (S7.out.trans (SBW8.out.mono S7.out.size))
  have eq0W8 : W8.cell? ⟨W7.heap.size + z7.bs.size, 0, none⟩ = some (.int .i64 999000) := cell_of_block ZqW8.out 0 (by simp)
  have eq1W8 : W8.cell? ⟨W7.heap.size + z7.bs.size, 1, none⟩ = some (.int .i64 6000) := cell_of_block ZqW8.out 1 (by simp)
  have eq2W8 : W8.cell? ⟨W7.heap.size + z7.bs.size, 2, none⟩ = some (.int .i64 0) := cell_of_block ZqW8.out 2 (by simp)
  have eq3W8 : W8.cell? ⟨W7.heap.size + z7.bs.size, 3, none⟩ = some (.int .i64 500000) := cell_of_block ZqW8.out 3 (by simp)
  have eq4W8 : W8.cell? ⟨W7.heap.size + z7.bs.size, 4, none⟩ = some (.int .i64 6000) := cell_of_block ZqW8.out 4 (by simp)
  have eq5W8 : W8.cell? ⟨W7.heap.size + z7.bs.size, 5, none⟩ = some (.int .i64 1) := cell_of_block ZqW8.out 5 (by simp)
  have eq6W8 : W8.cell? ⟨W7.heap.size + z7.bs.size, 6, none⟩ = some (.int .i64 999000) := cell_of_block ZqW8.out 6 (by simp)
  have eq7W8 : W8.cell? ⟨W7.heap.size + z7.bs.size, 7, none⟩ = some (.int .i64 5900) := cell_of_block ZqW8.out 7 (by simp)
  have eq8W8 : W8.cell? ⟨W7.heap.size + z7.bs.size, 8, none⟩ = some (.int .i64 2) := cell_of_block ZqW8.out 8 (by simp)
  have eq9W8 : W8.cell? ⟨W7.heap.size + z7.bs.size, 9, none⟩ = some (.int .i64 999000) := cell_of_block ZqW8.out 9 (by simp)
  have eq10W8 : W8.cell? ⟨W7.heap.size + z7.bs.size, 10, none⟩ = some (.int .i64 6100) := cell_of_block ZqW8.out 10 (by simp)
  have eq11W8 : W8.cell? ⟨W7.heap.size + z7.bs.size, 11, none⟩ = some (.int .i64 3) := cell_of_block ZqW8.out 11 (by simp)
  have lqW8 := (Array.getElem?_eq_some_iff.1 ZqW8.out).1
  have ec0W8 : W8.cell? ⟨W1.heap.size, 0, none⟩ = some (.int .i64 10) := cell_of_block ZcW8.out 0 (by simp)
  have ec1W8 : W8.cell? ⟨W1.heap.size, 1, none⟩ = some (.slice (some ⟨bA, 0, none⟩) 2 2) := cell_of_block ZcW8.out 1 (by simp)
  have ec2W8 : W8.cell? ⟨W1.heap.size, 2, none⟩ = some (.slice (some ⟨bW, 0, none⟩) 2 2) := cell_of_block ZcW8.out 2 (by simp)
  have lcW8 := (Array.getElem?_eq_some_iff.1 ZcW8.out).1
  have ex0W8 : W8.cell? ⟨W1.heap.size + 1, 0, none⟩ = some (.int .i64 9) := cell_of_block ZxW8.out 0 (by simp)
  have ex1W8 : W8.cell? ⟨W1.heap.size + 1, 1, none⟩ = some (.int .i64 600000) := cell_of_block ZxW8.out 1 (by simp)
  have ex2W8 : W8.cell? ⟨W1.heap.size + 1, 2, none⟩ = some (.int .i64 600000) := cell_of_block ZxW8.out 2 (by simp)
  have ex3W8 : W8.cell? ⟨W1.heap.size + 1, 3, none⟩ = some (.int .i64 400000) := cell_of_block ZxW8.out 3 (by simp)
  have ex4W8 : W8.cell? ⟨W1.heap.size + 1, 4, none⟩ = some (.int .i64 400000) := cell_of_block ZxW8.out 4 (by simp)
  have lxW8 := (Array.getElem?_eq_some_iff.1 ZxW8.out).1
  have ea0W8 : W8.cell? ⟨W2.heap.size + z1.bs.size, 0, none⟩ = some (.int .i64 9) := cell_of_block ZaW8.out 0 (by simp)
  have ea1W8 : W8.cell? ⟨W2.heap.size + z1.bs.size, 1, none⟩ = some (.int .i64 600000) := cell_of_block ZaW8.out 1 (by simp)
  have ea2W8 : W8.cell? ⟨W2.heap.size + z1.bs.size, 2, none⟩ = some (.int .i64 600000) := cell_of_block ZaW8.out 2 (by simp)
  have ea3W8 : W8.cell? ⟨W2.heap.size + z1.bs.size, 3, none⟩ = some (.int .i64 400000) := cell_of_block ZaW8.out 3 (by simp)
  have ea4W8 : W8.cell? ⟨W2.heap.size + z1.bs.size, 4, none⟩ = some (.int .i64 400000) := cell_of_block ZaW8.out 4 (by simp)
  have laW8 := (Array.getElem?_eq_some_iff.1 ZaW8.out).1
  have eb0W8 : W8.cell? ⟨W3.heap.size + z2.bs.size, 0, none⟩ = some (.int .i64 10) := cell_of_block ZbW8.out 0 (by simp)
  have eb1W8 : W8.cell? ⟨W3.heap.size + z2.bs.size, 1, none⟩ = some (.int .i64 598800) := cell_of_block ZbW8.out 1 (by simp)
  have eb2W8 : W8.cell? ⟨W3.heap.size + z2.bs.size, 2, none⟩ = some (.int .i64 599400) := cell_of_block ZbW8.out 2 (by simp)
  have eb3W8 : W8.cell? ⟨W3.heap.size + z2.bs.size, 3, none⟩ = some (.int .i64 399600) := cell_of_block ZbW8.out 3 (by simp)
  have eb4W8 : W8.cell? ⟨W3.heap.size + z2.bs.size, 4, none⟩ = some (.int .i64 400000) := cell_of_block ZbW8.out 4 (by simp)
  have lbW8 := (Array.getElem?_eq_some_iff.1 ZbW8.out).1
  have ed0W8 : W8.cell? ⟨W4.heap.size + z3.bs.size, 0, none⟩ = some (.int .i64 11) := cell_of_block ZdW8.out 0 (by simp)
  have ed1W8 : W8.cell? ⟨W4.heap.size + z3.bs.size, 1, none⟩ = some (.int .i64 598201) := cell_of_block ZdW8.out 1 (by simp)
  have ed2W8 : W8.cell? ⟨W4.heap.size + z3.bs.size, 2, none⟩ = some (.int .i64 598801) := cell_of_block ZdW8.out 2 (by simp)
  have ed3W8 : W8.cell? ⟨W4.heap.size + z3.bs.size, 3, none⟩ = some (.int .i64 399600) := cell_of_block ZdW8.out 3 (by simp)
  have ed4W8 : W8.cell? ⟨W4.heap.size + z3.bs.size, 4, none⟩ = some (.int .i64 400000) := cell_of_block ZdW8.out 4 (by simp)
  have ldW8 := (Array.getElem?_eq_some_iff.1 ZdW8.out).1
  have es0W8 : W8.cell? ⟨W5.heap.size + z4.bs.size, 0, none⟩ = some (.int .i64 6000) := cell_of_block ZsW8.out 0 (by simp)
  have es1W8 : W8.cell? ⟨W5.heap.size + z4.bs.size, 1, none⟩ = some (.int .i64 6000) := cell_of_block ZsW8.out 1 (by simp)
  have lsW8 := (Array.getElem?_eq_some_iff.1 ZsW8.out).1
  have et0W8 : W8.cell? ⟨W6.heap.size + z5.bs.size, 0, none⟩ = some (.int .i64 5995) := cell_of_block ZtW8.out 0 (by simp)
  have et1W8 : W8.cell? ⟨W6.heap.size + z5.bs.size, 1, none⟩ = some (.int .i64 6000) := cell_of_block ZtW8.out 1 (by simp)
  have ltW8 := (Array.getElem?_eq_some_iff.1 ZtW8.out).1
  have Kc := Lib.hid ZcW8.out
  have Kx := Lib.hid ZxW8.out
  have Ks := Lib.hid ZsW8.out
  have Kt := Lib.hid ZtW8.out
  have Kq := Lib.hid ZqW8.out
  go_loopw [103] (fun t wr => ∃ j : Nat, j ≤ 4 ∧ t = .int .i64 j ∧ Hid (Below W8.heap.size W8 wr)) (fun t _ => 4 - (intOf t).toNat)
  case atStart => exact ⟨0, Nat.zero_le _, rfl, Lib.hid (Below.refl _ _)⟩
  case round =>
    clear ec0W8 ec1W8 ec2W8 ex0W8 ex1W8 ex2W8 ex3W8 ex4W8 ea0W8 ea1W8 ea2W8 ea3W8 ea4W8 eb0W8 eb1W8 eb2W8 eb3W8 eb4W8 ed0W8 ed1W8 ed2W8 ed3W8 ed4W8 es0W8 es1W8 et0W8 et1W8 eq0W8 eq1W8 eq2W8 eq3W8 eq4W8 eq5W8 eq6W8 eq7W8 eq8W8 eq9W8 eq10W8 eq11W8
    obtain ⟨j, hj, rfl, SBr⟩ := hrel
    have SBwr := Lib.hid (SBr.out)
    have Zcwr := Lib.hid ((SBwr.out.block _ (Array.getElem?_eq_some_iff.1 ZcW8.out).1).trans ZcW8.out)
    have Zxwr := Lib.hid ((SBwr.out.block _ (Array.getElem?_eq_some_iff.1 ZxW8.out).1).trans ZxW8.out)
    have Zawr := Lib.hid ((SBwr.out.block _ (Array.getElem?_eq_some_iff.1 ZaW8.out).1).trans ZaW8.out)
    have Zbwr := Lib.hid ((SBwr.out.block _ (Array.getElem?_eq_some_iff.1 ZbW8.out).1).trans ZbW8.out)
    have Zdwr := Lib.hid ((SBwr.out.block _ (Array.getElem?_eq_some_iff.1 ZdW8.out).1).trans ZdW8.out)
    have Zswr := Lib.hid ((SBwr.out.block _ (Array.getElem?_eq_some_iff.1 ZsW8.out).1).trans ZsW8.out)
    have Ztwr := Lib.hid ((SBwr.out.block _ (Array.getElem?_eq_some_iff.1 ZtW8.out).1).trans ZtW8.out)
    have Zqwr := Lib.hid ((SBwr.out.block _ (Array.getElem?_eq_some_iff.1 ZqW8.out).1).trans ZqW8.out)
    have HBwr := Lib.hid (thru SBwr.out HBW8.out)
    have Swr := Lib.hid (S8.out.trans (SBwr.out.mono S8.out.size))
    rcases (by omega : j = 0 ∨ j = 1 ∨ j = 2 ∨ j = 3 ∨ j = 4) with rfl | rfl | rfl | rfl | rfl
    · have ec0wr : wr.cell? ⟨W1.heap.size, 0, none⟩ = some (.int .i64 10) := cell_of_block Zcwr.out 0 (by simp)
      have ec1wr : wr.cell? ⟨W1.heap.size, 1, none⟩ = some (.slice (some ⟨bA, 0, none⟩) 2 2) := cell_of_block Zcwr.out 1 (by simp)
      have ec2wr : wr.cell? ⟨W1.heap.size, 2, none⟩ = some (.slice (some ⟨bW, 0, none⟩) 2 2) := cell_of_block Zcwr.out 2 (by simp)
      have lcwr := (Array.getElem?_eq_some_iff.1 Zcwr.out).1
      have ex0wr : wr.cell? ⟨W1.heap.size + 1, 0, none⟩ = some (.int .i64 9) := cell_of_block Zxwr.out 0 (by simp)
      have ex1wr : wr.cell? ⟨W1.heap.size + 1, 1, none⟩ = some (.int .i64 600000) := cell_of_block Zxwr.out 1 (by simp)
      have ex2wr : wr.cell? ⟨W1.heap.size + 1, 2, none⟩ = some (.int .i64 600000) := cell_of_block Zxwr.out 2 (by simp)
      have ex3wr : wr.cell? ⟨W1.heap.size + 1, 3, none⟩ = some (.int .i64 400000) := cell_of_block Zxwr.out 3 (by simp)
      have ex4wr : wr.cell? ⟨W1.heap.size + 1, 4, none⟩ = some (.int .i64 400000) := cell_of_block Zxwr.out 4 (by simp)
      have lxwr := (Array.getElem?_eq_some_iff.1 Zxwr.out).1
      have eq0wr : wr.cell? ⟨W7.heap.size + z7.bs.size, 0, none⟩ = some (.int .i64 999000) := cell_of_block Zqwr.out 0 (by simp)
      have eq1wr : wr.cell? ⟨W7.heap.size + z7.bs.size, 1, none⟩ = some (.int .i64 6000) := cell_of_block Zqwr.out 1 (by simp)
      have eq2wr : wr.cell? ⟨W7.heap.size + z7.bs.size, 2, none⟩ = some (.int .i64 0) := cell_of_block Zqwr.out 2 (by simp)
      have eq3wr : wr.cell? ⟨W7.heap.size + z7.bs.size, 3, none⟩ = some (.int .i64 500000) := cell_of_block Zqwr.out 3 (by simp)
      have eq4wr : wr.cell? ⟨W7.heap.size + z7.bs.size, 4, none⟩ = some (.int .i64 6000) := cell_of_block Zqwr.out 4 (by simp)
      have eq5wr : wr.cell? ⟨W7.heap.size + z7.bs.size, 5, none⟩ = some (.int .i64 1) := cell_of_block Zqwr.out 5 (by simp)
      have eq6wr : wr.cell? ⟨W7.heap.size + z7.bs.size, 6, none⟩ = some (.int .i64 999000) := cell_of_block Zqwr.out 6 (by simp)
      have eq7wr : wr.cell? ⟨W7.heap.size + z7.bs.size, 7, none⟩ = some (.int .i64 5900) := cell_of_block Zqwr.out 7 (by simp)
      have eq8wr : wr.cell? ⟨W7.heap.size + z7.bs.size, 8, none⟩ = some (.int .i64 2) := cell_of_block Zqwr.out 8 (by simp)
      have eq9wr : wr.cell? ⟨W7.heap.size + z7.bs.size, 9, none⟩ = some (.int .i64 999000) := cell_of_block Zqwr.out 9 (by simp)
      have eq10wr : wr.cell? ⟨W7.heap.size + z7.bs.size, 10, none⟩ = some (.int .i64 6100) := cell_of_block Zqwr.out 10 (by simp)
      have eq11wr : wr.cell? ⟨W7.heap.size + z7.bs.size, 11, none⟩ = some (.int .i64 3) := cell_of_block Zqwr.out 11 (by simp)
      have lqwr := (Array.getElem?_eq_some_iff.1 Zqwr.out).1
      go_upto_region 13 with (fail)
      obtain ⟨W9, hW9⟩ : ∃ W9, ((wr)).alloc (.cells #[.int .i64 999000, .int .i64 6000, .int .i64 0] 85) = W9 := ⟨_, rfl⟩
      have hbW9 : Below wr.heap.size wr W9 := by rw [← hW9]; exact (Below.refl _ wr).alloc (by simp [gw_size]) _
      have ZcW9 := Lib.hid ((hbW9.block _ (Array.getElem?_eq_some_iff.1 Zcwr.out).1).trans Zcwr.out)
      have ZxW9 := Lib.hid ((hbW9.block _ (Array.getElem?_eq_some_iff.1 Zxwr.out).1).trans Zxwr.out)
      have ZaW9 := Lib.hid ((hbW9.block _ (Array.getElem?_eq_some_iff.1 Zawr.out).1).trans Zawr.out)
      have ZbW9 := Lib.hid ((hbW9.block _ (Array.getElem?_eq_some_iff.1 Zbwr.out).1).trans Zbwr.out)
      have ZdW9 := Lib.hid ((hbW9.block _ (Array.getElem?_eq_some_iff.1 Zdwr.out).1).trans Zdwr.out)
      have ZsW9 := Lib.hid ((hbW9.block _ (Array.getElem?_eq_some_iff.1 Zswr.out).1).trans Zswr.out)
      have ZtW9 := Lib.hid ((hbW9.block _ (Array.getElem?_eq_some_iff.1 Ztwr.out).1).trans Ztwr.out)
      have ZqW9 := Lib.hid ((hbW9.block _ (Array.getElem?_eq_some_iff.1 Zqwr.out).1).trans Zqwr.out)
      have zzW9 : W9.heap[wr.heap.size]? = some (.cells #[.int .i64 999000, .int .i64 6000, .int .i64 0] 85 (0, 0)) := by rw [← hW9]; exact alloc_at (by simp [gw_size])
      have ZzW9 := Lib.hid zzW9; clear zzW9
      have HBW9 := Lib.hid (thru hbW9 HBwr.out)
      have SBW9 := Lib.hid hbW9; clear hbW9
      have HWW9 := Lib.hid hW9; clear hW9
      rw [HWW9.out]
      clear ec0wr ec1wr ec2wr ex0wr ex1wr ex2wr ex3wr ex4wr eq0wr eq1wr eq2wr eq3wr eq4wr eq5wr eq6wr eq7wr eq8wr eq9wr eq10wr eq11wr
      have S9 := Lib.hid (Swr.out.trans (SBW9.out.mono Swr.out.size))
      have ec0W9 : W9.cell? ⟨W1.heap.size, 0, none⟩ = some (.int .i64 10) := cell_of_block ZcW9.out 0 (by simp)
      have ec1W9 : W9.cell? ⟨W1.heap.size, 1, none⟩ = some (.slice (some ⟨bA, 0, none⟩) 2 2) := cell_of_block ZcW9.out 1 (by simp)
      have ec2W9 : W9.cell? ⟨W1.heap.size, 2, none⟩ = some (.slice (some ⟨bW, 0, none⟩) 2 2) := cell_of_block ZcW9.out 2 (by simp)
      have lcW9 := (Array.getElem?_eq_some_iff.1 ZcW9.out).1
      have ex0W9 : W9.cell? ⟨W1.heap.size + 1, 0, none⟩ = some (.int .i64 9) := cell_of_block ZxW9.out 0 (by simp)
      have ex1W9 : W9.cell? ⟨W1.heap.size + 1, 1, none⟩ = some (.int .i64 600000) := cell_of_block ZxW9.out 1 (by simp)
      have ex2W9 : W9.cell? ⟨W1.heap.size + 1, 2, none⟩ = some (.int .i64 600000) := cell_of_block ZxW9.out 2 (by simp)
      have ex3W9 : W9.cell? ⟨W1.heap.size + 1, 3, none⟩ = some (.int .i64 400000) := cell_of_block ZxW9.out 3 (by simp)
      have ex4W9 : W9.cell? ⟨W1.heap.size + 1, 4, none⟩ = some (.int .i64 400000) := cell_of_block ZxW9.out 4 (by simp)
      have lxW9 := (Array.getElem?_eq_some_iff.1 ZxW9.out).1
      have ez0W9 : W9.cell? ⟨wr.heap.size, 0, none⟩ = some (.int .i64 999000) := cell_of_block ZzW9.out 0 (by simp)
      have ez1W9 : W9.cell? ⟨wr.heap.size, 1, none⟩ = some (.int .i64 6000) := cell_of_block ZzW9.out 1 (by simp)
      have ez2W9 : W9.cell? ⟨wr.heap.size, 2, none⟩ = some (.int .i64 0) := cell_of_block ZzW9.out 2 (by simp)
      have lzW9 := (Array.getElem?_eq_some_iff.1 ZzW9.out).1
      refine wp_region_gw (by kernel_rfl) (by kernel_rfl) ?_
      repeat (go_big_quiet_step (first | (go_at_call 47; exact Calls.gw_of (one_b _ _)) | (go_at_call 24; exact Calls.gw_of (SH0'.out _ (S9.out.gw _)))))
      refine wpQuiet_nil ?_
      rintro _ ⟨z9, rfl⟩
      go_wp2_with fail
      go_roundw
      case rel => exact ⟨1, by omega, by go_num, Lib.hid (SBr.out.trans ((SBW9.out.gw z9).mono SBr.out.size))⟩
      case measure => simp [intOf]
    · have ec0wr : wr.cell? ⟨W1.heap.size, 0, none⟩ = some (.int .i64 10) := cell_of_block Zcwr.out 0 (by simp)
      have ec1wr : wr.cell? ⟨W1.heap.size, 1, none⟩ = some (.slice (some ⟨bA, 0, none⟩) 2 2) := cell_of_block Zcwr.out 1 (by simp)
      have ec2wr : wr.cell? ⟨W1.heap.size, 2, none⟩ = some (.slice (some ⟨bW, 0, none⟩) 2 2) := cell_of_block Zcwr.out 2 (by simp)
      have lcwr := (Array.getElem?_eq_some_iff.1 Zcwr.out).1
      have ex0wr : wr.cell? ⟨W1.heap.size + 1, 0, none⟩ = some (.int .i64 9) := cell_of_block Zxwr.out 0 (by simp)
      have ex1wr : wr.cell? ⟨W1.heap.size + 1, 1, none⟩ = some (.int .i64 600000) := cell_of_block Zxwr.out 1 (by simp)
      have ex2wr : wr.cell? ⟨W1.heap.size + 1, 2, none⟩ = some (.int .i64 600000) := cell_of_block Zxwr.out 2 (by simp)
      have ex3wr : wr.cell? ⟨W1.heap.size + 1, 3, none⟩ = some (.int .i64 400000) := cell_of_block Zxwr.out 3 (by simp)
      have ex4wr : wr.cell? ⟨W1.heap.size + 1, 4, none⟩ = some (.int .i64 400000) := cell_of_block Zxwr.out 4 (by simp)
      have lxwr := (Array.getElem?_eq_some_iff.1 Zxwr.out).1
      have eq0wr : wr.cell? ⟨W7.heap.size + z7.bs.size, 0, none⟩ = some (.int .i64 999000) := cell_of_block Zqwr.out 0 (by simp)
      have eq1wr : wr.cell? ⟨W7.heap.size + z7.bs.size, 1, none⟩ = some (.int .i64 6000) := cell_of_block Zqwr.out 1 (by simp)
      have eq2wr : wr.cell? ⟨W7.heap.size + z7.bs.size, 2, none⟩ = some (.int .i64 0) := cell_of_block Zqwr.out 2 (by simp)
      have eq3wr : wr.cell? ⟨W7.heap.size + z7.bs.size, 3, none⟩ = some (.int .i64 500000) := cell_of_block Zqwr.out 3 (by simp)
      have eq4wr : wr.cell? ⟨W7.heap.size + z7.bs.size, 4, none⟩ = some (.int .i64 6000) := cell_of_block Zqwr.out 4 (by simp)
      have eq5wr : wr.cell? ⟨W7.heap.size + z7.bs.size, 5, none⟩ = some (.int .i64 1) := cell_of_block Zqwr.out 5 (by simp)
      have eq6wr : wr.cell? ⟨W7.heap.size + z7.bs.size, 6, none⟩ = some (.int .i64 999000) := cell_of_block Zqwr.out 6 (by simp)
      have eq7wr : wr.cell? ⟨W7.heap.size + z7.bs.size, 7, none⟩ = some (.int .i64 5900) := cell_of_block Zqwr.out 7 (by simp)
      have eq8wr : wr.cell? ⟨W7.heap.size + z7.bs.size, 8, none⟩ = some (.int .i64 2) := cell_of_block Zqwr.out 8 (by simp)
      have eq9wr : wr.cell? ⟨W7.heap.size + z7.bs.size, 9, none⟩ = some (.int .i64 999000) := cell_of_block Zqwr.out 9 (by simp)
      have eq10wr : wr.cell? ⟨W7.heap.size + z7.bs.size, 10, none⟩ = some (.int .i64 6100) := cell_of_block Zqwr.out 10 (by simp)
      have eq11wr : wr.cell? ⟨W7.heap.size + z7.bs.size, 11, none⟩ = some (.int .i64 3) := cell_of_block Zqwr.out 11 (by simp)
      have lqwr := (Array.getElem?_eq_some_iff.1 Zqwr.out).1
      go_upto_region 13 with (fail)
      obtain ⟨W9, hW9⟩ : ∃ W9, ((wr)).alloc (.cells #[.int .i64 500000, .int .i64 6000, .int .i64 1] 85) = W9 := ⟨_, rfl⟩
      have hbW9 : Below wr.heap.size wr W9 := by rw [← hW9]; exact (Below.refl _ wr).alloc (by simp [gw_size]) _
      have ZcW9 := Lib.hid ((hbW9.block _ (Array.getElem?_eq_some_iff.1 Zcwr.out).1).trans Zcwr.out)
      have ZxW9 := Lib.hid ((hbW9.block _ (Array.getElem?_eq_some_iff.1 Zxwr.out).1).trans Zxwr.out)
      have ZaW9 := Lib.hid ((hbW9.block _ (Array.getElem?_eq_some_iff.1 Zawr.out).1).trans Zawr.out)
      have ZbW9 := Lib.hid ((hbW9.block _ (Array.getElem?_eq_some_iff.1 Zbwr.out).1).trans Zbwr.out)
      have ZdW9 := Lib.hid ((hbW9.block _ (Array.getElem?_eq_some_iff.1 Zdwr.out).1).trans Zdwr.out)
      have ZsW9 := Lib.hid ((hbW9.block _ (Array.getElem?_eq_some_iff.1 Zswr.out).1).trans Zswr.out)
      have ZtW9 := Lib.hid ((hbW9.block _ (Array.getElem?_eq_some_iff.1 Ztwr.out).1).trans Ztwr.out)
      have ZqW9 := Lib.hid ((hbW9.block _ (Array.getElem?_eq_some_iff.1 Zqwr.out).1).trans Zqwr.out)
      have zzW9 : W9.heap[wr.heap.size]? = some (.cells #[.int .i64 500000, .int .i64 6000, .int .i64 1] 85 (0, 0)) := by rw [← hW9]; exact alloc_at (by simp [gw_size])
      have ZzW9 := Lib.hid zzW9; clear zzW9
      have HBW9 := Lib.hid (thru hbW9 HBwr.out)
      have SBW9 := Lib.hid hbW9; clear hbW9
      have HWW9 := Lib.hid hW9; clear hW9
      rw [HWW9.out]
      clear ec0wr ec1wr ec2wr ex0wr ex1wr ex2wr ex3wr ex4wr eq0wr eq1wr eq2wr eq3wr eq4wr eq5wr eq6wr eq7wr eq8wr eq9wr eq10wr eq11wr
      have S9 := Lib.hid (Swr.out.trans (SBW9.out.mono Swr.out.size))
      have ec0W9 : W9.cell? ⟨W1.heap.size, 0, none⟩ = some (.int .i64 10) := cell_of_block ZcW9.out 0 (by simp)
      have ec1W9 : W9.cell? ⟨W1.heap.size, 1, none⟩ = some (.slice (some ⟨bA, 0, none⟩) 2 2) := cell_of_block ZcW9.out 1 (by simp)
      have ec2W9 : W9.cell? ⟨W1.heap.size, 2, none⟩ = some (.slice (some ⟨bW, 0, none⟩) 2 2) := cell_of_block ZcW9.out 2 (by simp)
      have lcW9 := (Array.getElem?_eq_some_iff.1 ZcW9.out).1
      have ex0W9 : W9.cell? ⟨W1.heap.size + 1, 0, none⟩ = some (.int .i64 9) := cell_of_block ZxW9.out 0 (by simp)
      have ex1W9 : W9.cell? ⟨W1.heap.size + 1, 1, none⟩ = some (.int .i64 600000) := cell_of_block ZxW9.out 1 (by simp)
      have ex2W9 : W9.cell? ⟨W1.heap.size + 1, 2, none⟩ = some (.int .i64 600000) := cell_of_block ZxW9.out 2 (by simp)
      have ex3W9 : W9.cell? ⟨W1.heap.size + 1, 3, none⟩ = some (.int .i64 400000) := cell_of_block ZxW9.out 3 (by simp)
      have ex4W9 : W9.cell? ⟨W1.heap.size + 1, 4, none⟩ = some (.int .i64 400000) := cell_of_block ZxW9.out 4 (by simp)
      have lxW9 := (Array.getElem?_eq_some_iff.1 ZxW9.out).1
      have ez0W9 : W9.cell? ⟨wr.heap.size, 0, none⟩ = some (.int .i64 500000) := cell_of_block ZzW9.out 0 (by simp)
      have ez1W9 : W9.cell? ⟨wr.heap.size, 1, none⟩ = some (.int .i64 6000) := cell_of_block ZzW9.out 1 (by simp)
      have ez2W9 : W9.cell? ⟨wr.heap.size, 2, none⟩ = some (.int .i64 1) := cell_of_block ZzW9.out 2 (by simp)
      have lzW9 := (Array.getElem?_eq_some_iff.1 ZzW9.out).1
      refine wp_region_gw (by kernel_rfl) (by kernel_rfl) ?_
      repeat (go_big_quiet_step (first | (go_at_call 47; exact Calls.gw_of (one_b _ _)) | (go_at_call 24; exact Calls.gw_of (SH1'.out _ (S9.out.gw _)))))
      refine wpQuiet_nil ?_
      rintro _ ⟨z9, rfl⟩
      go_wp2_with fail
      go_roundw
      case rel => exact ⟨2, by omega, by go_num, Lib.hid (SBr.out.trans ((SBW9.out.gw z9).mono SBr.out.size))⟩
      case measure => simp [intOf]
    · have ec0wr : wr.cell? ⟨W1.heap.size, 0, none⟩ = some (.int .i64 10) := cell_of_block Zcwr.out 0 (by simp)
      have ec1wr : wr.cell? ⟨W1.heap.size, 1, none⟩ = some (.slice (some ⟨bA, 0, none⟩) 2 2) := cell_of_block Zcwr.out 1 (by simp)
      have ec2wr : wr.cell? ⟨W1.heap.size, 2, none⟩ = some (.slice (some ⟨bW, 0, none⟩) 2 2) := cell_of_block Zcwr.out 2 (by simp)
      have lcwr := (Array.getElem?_eq_some_iff.1 Zcwr.out).1
      have ex0wr : wr.cell? ⟨W1.heap.size + 1, 0, none⟩ = some (.int .i64 9) := cell_of_block Zxwr.out 0 (by simp)
      have ex1wr : wr.cell? ⟨W1.heap.size + 1, 1, none⟩ = some (.int .i64 600000) := cell_of_block Zxwr.out 1 (by simp)
      have ex2wr : wr.cell? ⟨W1.heap.size + 1, 2, none⟩ = some (.int .i64 600000) := cell_of_block Zxwr.out 2 (by simp)
      have ex3wr : wr.cell? ⟨W1.heap.size + 1, 3, none⟩ = some (.int .i64 400000) := cell_of_block Zxwr.out 3 (by simp)
      have ex4wr : wr.cell? ⟨W1.heap.size + 1, 4, none⟩ = some (.int .i64 400000) := cell_of_block Zxwr.out 4 (by simp)
      have lxwr := (Array.getElem?_eq_some_iff.1 Zxwr.out).1
      have eq0wr : wr.cell? ⟨W7.heap.size + z7.bs.size, 0, none⟩ = some (.int .i64 999000) := cell_of_block Zqwr.out 0 (by simp)
      have eq1wr : wr.cell? ⟨W7.heap.size + z7.bs.size, 1, none⟩ = some (.int .i64 6000) := cell_of_block Zqwr.out 1 (by simp)
      have eq2wr : wr.cell? ⟨W7.heap.size + z7.bs.size, 2, none⟩ = some (.int .i64 0) := cell_of_block Zqwr.out 2 (by simp)
      have eq3wr : wr.cell? ⟨W7.heap.size + z7.bs.size, 3, none⟩ = some (.int .i64 500000) := cell_of_block Zqwr.out 3 (by simp)
      have eq4wr : wr.cell? ⟨W7.heap.size + z7.bs.size, 4, none⟩ = some (.int .i64 6000) := cell_of_block Zqwr.out 4 (by simp)
      have eq5wr : wr.cell? ⟨W7.heap.size + z7.bs.size, 5, none⟩ = some (.int .i64 1) := cell_of_block Zqwr.out 5 (by simp)
      have eq6wr : wr.cell? ⟨W7.heap.size + z7.bs.size, 6, none⟩ = some (.int .i64 999000) := cell_of_block Zqwr.out 6 (by simp)
      have eq7wr : wr.cell? ⟨W7.heap.size + z7.bs.size, 7, none⟩ = some (.int .i64 5900) := cell_of_block Zqwr.out 7 (by simp)
      have eq8wr : wr.cell? ⟨W7.heap.size + z7.bs.size, 8, none⟩ = some (.int .i64 2) := cell_of_block Zqwr.out 8 (by simp)
      have eq9wr : wr.cell? ⟨W7.heap.size + z7.bs.size, 9, none⟩ = some (.int .i64 999000) := cell_of_block Zqwr.out 9 (by simp)
      have eq10wr : wr.cell? ⟨W7.heap.size + z7.bs.size, 10, none⟩ = some (.int .i64 6100) := cell_of_block Zqwr.out 10 (by simp)
      have eq11wr : wr.cell? ⟨W7.heap.size + z7.bs.size, 11, none⟩ = some (.int .i64 3) := cell_of_block Zqwr.out 11 (by simp)
      have lqwr := (Array.getElem?_eq_some_iff.1 Zqwr.out).1
      go_upto_region 13 with (fail)
      obtain ⟨W9, hW9⟩ : ∃ W9, ((wr)).alloc (.cells #[.int .i64 999000, .int .i64 5900, .int .i64 2] 85) = W9 := ⟨_, rfl⟩
      have hbW9 : Below wr.heap.size wr W9 := by rw [← hW9]; exact (Below.refl _ wr).alloc (by simp [gw_size]) _
      have ZcW9 := Lib.hid ((hbW9.block _ (Array.getElem?_eq_some_iff.1 Zcwr.out).1).trans Zcwr.out)
      have ZxW9 := Lib.hid ((hbW9.block _ (Array.getElem?_eq_some_iff.1 Zxwr.out).1).trans Zxwr.out)
      have ZaW9 := Lib.hid ((hbW9.block _ (Array.getElem?_eq_some_iff.1 Zawr.out).1).trans Zawr.out)
      have ZbW9 := Lib.hid ((hbW9.block _ (Array.getElem?_eq_some_iff.1 Zbwr.out).1).trans Zbwr.out)
      have ZdW9 := Lib.hid ((hbW9.block _ (Array.getElem?_eq_some_iff.1 Zdwr.out).1).trans Zdwr.out)
      have ZsW9 := Lib.hid ((hbW9.block _ (Array.getElem?_eq_some_iff.1 Zswr.out).1).trans Zswr.out)
      have ZtW9 := Lib.hid ((hbW9.block _ (Array.getElem?_eq_some_iff.1 Ztwr.out).1).trans Ztwr.out)
      have ZqW9 := Lib.hid ((hbW9.block _ (Array.getElem?_eq_some_iff.1 Zqwr.out).1).trans Zqwr.out)
      have zzW9 : W9.heap[wr.heap.size]? = some (.cells #[.int .i64 999000, .int .i64 5900, .int .i64 2] 85 (0, 0)) := by rw [← hW9]; exact alloc_at (by simp [gw_size])
      have ZzW9 := Lib.hid zzW9; clear zzW9
      have HBW9 := Lib.hid (thru hbW9 HBwr.out)
      have SBW9 := Lib.hid hbW9; clear hbW9
      have HWW9 := Lib.hid hW9; clear hW9
      rw [HWW9.out]
      clear ec0wr ec1wr ec2wr ex0wr ex1wr ex2wr ex3wr ex4wr eq0wr eq1wr eq2wr eq3wr eq4wr eq5wr eq6wr eq7wr eq8wr eq9wr eq10wr eq11wr
      have S9 := Lib.hid (Swr.out.trans (SBW9.out.mono Swr.out.size))
      have ec0W9 : W9.cell? ⟨W1.heap.size, 0, none⟩ = some (.int .i64 10) := cell_of_block ZcW9.out 0 (by simp)
      have ec1W9 : W9.cell? ⟨W1.heap.size, 1, none⟩ = some (.slice (some ⟨bA, 0, none⟩) 2 2) := cell_of_block ZcW9.out 1 (by simp)
      have ec2W9 : W9.cell? ⟨W1.heap.size, 2, none⟩ = some (.slice (some ⟨bW, 0, none⟩) 2 2) := cell_of_block ZcW9.out 2 (by simp)
      have lcW9 := (Array.getElem?_eq_some_iff.1 ZcW9.out).1
      have ex0W9 : W9.cell? ⟨W1.heap.size + 1, 0, none⟩ = some (.int .i64 9) := cell_of_block ZxW9.out 0 (by simp)
      have ex1W9 : W9.cell? ⟨W1.heap.size + 1, 1, none⟩ = some (.int .i64 600000) := cell_of_block ZxW9.out 1 (by simp)
      have ex2W9 : W9.cell? ⟨W1.heap.size + 1, 2, none⟩ = some (.int .i64 600000) := cell_of_block ZxW9.out 2 (by simp)
      have ex3W9 : W9.cell? ⟨W1.heap.size + 1, 3, none⟩ = some (.int .i64 400000) := cell_of_block ZxW9.out 3 (by simp)
      have ex4W9 : W9.cell? ⟨W1.heap.size + 1, 4, none⟩ = some (.int .i64 400000) := cell_of_block ZxW9.out 4 (by simp)
      have lxW9 := (Array.getElem?_eq_some_iff.1 ZxW9.out).1
      have ez0W9 : W9.cell? ⟨wr.heap.size, 0, none⟩ = some (.int .i64 999000) := cell_of_block ZzW9.out 0 (by simp)
      have ez1W9 : W9.cell? ⟨wr.heap.size, 1, none⟩ = some (.int .i64 5900) := cell_of_block ZzW9.out 1 (by simp)
      have ez2W9 : W9.cell? ⟨wr.heap.size, 2, none⟩ = some (.int .i64 2) := cell_of_block ZzW9.out 2 (by simp)
      have lzW9 := (Array.getElem?_eq_some_iff.1 ZzW9.out).1
      refine wp_region_gw (by kernel_rfl) (by kernel_rfl) ?_
      repeat (go_big_quiet_step (first | (go_at_call 47; exact Calls.gw_of (one_b _ _)) | (go_at_call 24; exact Calls.gw_of (SH2'.out _ (S9.out.gw _)))))
      refine wpQuiet_nil ?_
      rintro _ ⟨z9, rfl⟩
      go_wp2_with fail
      go_roundw
      case rel => exact ⟨3, by omega, by go_num, Lib.hid (SBr.out.trans ((SBW9.out.gw z9).mono SBr.out.size))⟩
      case measure => simp [intOf]
    · have ec0wr : wr.cell? ⟨W1.heap.size, 0, none⟩ = some (.int .i64 10) := cell_of_block Zcwr.out 0 (by simp)
      have ec1wr : wr.cell? ⟨W1.heap.size, 1, none⟩ = some (.slice (some ⟨bA, 0, none⟩) 2 2) := cell_of_block Zcwr.out 1 (by simp)
      have ec2wr : wr.cell? ⟨W1.heap.size, 2, none⟩ = some (.slice (some ⟨bW, 0, none⟩) 2 2) := cell_of_block Zcwr.out 2 (by simp)
      have lcwr := (Array.getElem?_eq_some_iff.1 Zcwr.out).1
      have ex0wr : wr.cell? ⟨W1.heap.size + 1, 0, none⟩ = some (.int .i64 9) := cell_of_block Zxwr.out 0 (by simp)
      have ex1wr : wr.cell? ⟨W1.heap.size + 1, 1, none⟩ = some (.int .i64 600000) := cell_of_block Zxwr.out 1 (by simp)
      have ex2wr : wr.cell? ⟨W1.heap.size + 1, 2, none⟩ = some (.int .i64 600000) := cell_of_block Zxwr.out 2 (by simp)
      have ex3wr : wr.cell? ⟨W1.heap.size + 1, 3, none⟩ = some (.int .i64 400000) := cell_of_block Zxwr.out 3 (by simp)
      have ex4wr : wr.cell? ⟨W1.heap.size + 1, 4, none⟩ = some (.int .i64 400000) := cell_of_block Zxwr.out 4 (by simp)
      have lxwr := (Array.getElem?_eq_some_iff.1 Zxwr.out).1
      have eq0wr : wr.cell? ⟨W7.heap.size + z7.bs.size, 0, none⟩ = some (.int .i64 999000) := cell_of_block Zqwr.out 0 (by simp)
      have eq1wr : wr.cell? ⟨W7.heap.size + z7.bs.size, 1, none⟩ = some (.int .i64 6000) := cell_of_block Zqwr.out 1 (by simp)
      have eq2wr : wr.cell? ⟨W7.heap.size + z7.bs.size, 2, none⟩ = some (.int .i64 0) := cell_of_block Zqwr.out 2 (by simp)
      have eq3wr : wr.cell? ⟨W7.heap.size + z7.bs.size, 3, none⟩ = some (.int .i64 500000) := cell_of_block Zqwr.out 3 (by simp)
      have eq4wr : wr.cell? ⟨W7.heap.size + z7.bs.size, 4, none⟩ = some (.int .i64 6000) := cell_of_block Zqwr.out 4 (by simp)
      have eq5wr : wr.cell? ⟨W7.heap.size + z7.bs.size, 5, none⟩ = some (.int .i64 1) := cell_of_block Zqwr.out 5 (by simp)
      have eq6wr : wr.cell? ⟨W7.heap.size + z7.bs.size, 6, none⟩ = some (.int .i64 999000) := cell_of_block Zqwr.out 6 (by simp)
      have eq7wr : wr.cell? ⟨W7.heap.size + z7.bs.size, 7, none⟩ = some (.int .i64 5900) := cell_of_block Zqwr.out 7 (by simp)
      have eq8wr : wr.cell? ⟨W7.heap.size + z7.bs.size, 8, none⟩ = some (.int .i64 2) := cell_of_block Zqwr.out 8 (by simp)
      have eq9wr : wr.cell? ⟨W7.heap.size + z7.bs.size, 9, none⟩ = some (.int .i64 999000) := cell_of_block Zqwr.out 9 (by simp)
      have eq10wr : wr.cell? ⟨W7.heap.size + z7.bs.size, 10, none⟩ = some (.int .i64 6100) := cell_of_block Zqwr.out 10 (by simp)
      have eq11wr : wr.cell? ⟨W7.heap.size + z7.bs.size, 11, none⟩ = some (.int .i64 3) := cell_of_block Zqwr.out 11 (by simp)
      have lqwr := (Array.getElem?_eq_some_iff.1 Zqwr.out).1
      go_upto_region 13 with (fail)
      obtain ⟨W9, hW9⟩ : ∃ W9, ((wr)).alloc (.cells #[.int .i64 999000, .int .i64 6100, .int .i64 3] 85) = W9 := ⟨_, rfl⟩
      have hbW9 : Below wr.heap.size wr W9 := by rw [← hW9]; exact (Below.refl _ wr).alloc (by simp [gw_size]) _
      have ZcW9 := Lib.hid ((hbW9.block _ (Array.getElem?_eq_some_iff.1 Zcwr.out).1).trans Zcwr.out)
      have ZxW9 := Lib.hid ((hbW9.block _ (Array.getElem?_eq_some_iff.1 Zxwr.out).1).trans Zxwr.out)
      have ZaW9 := Lib.hid ((hbW9.block _ (Array.getElem?_eq_some_iff.1 Zawr.out).1).trans Zawr.out)
      have ZbW9 := Lib.hid ((hbW9.block _ (Array.getElem?_eq_some_iff.1 Zbwr.out).1).trans Zbwr.out)
      have ZdW9 := Lib.hid ((hbW9.block _ (Array.getElem?_eq_some_iff.1 Zdwr.out).1).trans Zdwr.out)
      have ZsW9 := Lib.hid ((hbW9.block _ (Array.getElem?_eq_some_iff.1 Zswr.out).1).trans Zswr.out)
      have ZtW9 := Lib.hid ((hbW9.block _ (Array.getElem?_eq_some_iff.1 Ztwr.out).1).trans Ztwr.out)
      have ZqW9 := Lib.hid ((hbW9.block _ (Array.getElem?_eq_some_iff.1 Zqwr.out).1).trans Zqwr.out)
      have zzW9 : W9.heap[wr.heap.size]? = some (.cells #[.int .i64 999000, .int .i64 6100, .int .i64 3] 85 (0, 0)) := by rw [← hW9]; exact alloc_at (by simp [gw_size])
      have ZzW9 := Lib.hid zzW9; clear zzW9
      have HBW9 := Lib.hid (thru hbW9 HBwr.out)
      have SBW9 := Lib.hid hbW9; clear hbW9
      have HWW9 := Lib.hid hW9; clear hW9
      rw [HWW9.out]
      clear ec0wr ec1wr ec2wr ex0wr ex1wr ex2wr ex3wr ex4wr eq0wr eq1wr eq2wr eq3wr eq4wr eq5wr eq6wr eq7wr eq8wr eq9wr eq10wr eq11wr
      have S9 := Lib.hid (Swr.out.trans (SBW9.out.mono Swr.out.size))
      have ec0W9 : W9.cell? ⟨W1.heap.size, 0, none⟩ = some (.int .i64 10) := cell_of_block ZcW9.out 0 (by simp)
      have ec1W9 : W9.cell? ⟨W1.heap.size, 1, none⟩ = some (.slice (some ⟨bA, 0, none⟩) 2 2) := cell_of_block ZcW9.out 1 (by simp)
      have ec2W9 : W9.cell? ⟨W1.heap.size, 2, none⟩ = some (.slice (some ⟨bW, 0, none⟩) 2 2) := cell_of_block ZcW9.out 2 (by simp)
      have lcW9 := (Array.getElem?_eq_some_iff.1 ZcW9.out).1
      have ex0W9 : W9.cell? ⟨W1.heap.size + 1, 0, none⟩ = some (.int .i64 9) := cell_of_block ZxW9.out 0 (by simp)
      have ex1W9 : W9.cell? ⟨W1.heap.size + 1, 1, none⟩ = some (.int .i64 600000) := cell_of_block ZxW9.out 1 (by simp)
      have ex2W9 : W9.cell? ⟨W1.heap.size + 1, 2, none⟩ = some (.int .i64 600000) := cell_of_block ZxW9.out 2 (by simp)
      have ex3W9 : W9.cell? ⟨W1.heap.size + 1, 3, none⟩ = some (.int .i64 400000) := cell_of_block ZxW9.out 3 (by simp)
      have ex4W9 : W9.cell? ⟨W1.heap.size + 1, 4, none⟩ = some (.int .i64 400000) := cell_of_block ZxW9.out 4 (by simp)
      have lxW9 := (Array.getElem?_eq_some_iff.1 ZxW9.out).1
      have ez0W9 : W9.cell? ⟨wr.heap.size, 0, none⟩ = some (.int .i64 999000) := cell_of_block ZzW9.out 0 (by simp)
      have ez1W9 : W9.cell? ⟨wr.heap.size, 1, none⟩ = some (.int .i64 6100) := cell_of_block ZzW9.out 1 (by simp)
      have ez2W9 : W9.cell? ⟨wr.heap.size, 2, none⟩ = some (.int .i64 3) := cell_of_block ZzW9.out 2 (by simp)
      have lzW9 := (Array.getElem?_eq_some_iff.1 ZzW9.out).1
      refine wp_region_gw (by kernel_rfl) (by kernel_rfl) ?_
      repeat (go_big_quiet_step (first | (go_at_call 47; exact Calls.gw_of (one_b _ _)) | (go_at_call 24; exact Calls.gw_of (SH3'.out _ (S9.out.gw _)))))
      refine wpQuiet_nil ?_
      rintro _ ⟨z9, rfl⟩
      go_wp2_with fail
      go_roundw
      case rel => exact ⟨4, by omega, by go_num, Lib.hid (SBr.out.trans ((SBW9.out.gw z9).mono SBr.out.size))⟩
      case measure => simp [intOf]
    · have ec0wr : wr.cell? ⟨W1.heap.size, 0, none⟩ = some (.int .i64 10) := cell_of_block Zcwr.out 0 (by simp)
      have ec1wr : wr.cell? ⟨W1.heap.size, 1, none⟩ = some (.slice (some ⟨bA, 0, none⟩) 2 2) := cell_of_block Zcwr.out 1 (by simp)
      have ec2wr : wr.cell? ⟨W1.heap.size, 2, none⟩ = some (.slice (some ⟨bW, 0, none⟩) 2 2) := cell_of_block Zcwr.out 2 (by simp)
      have lcwr := (Array.getElem?_eq_some_iff.1 Zcwr.out).1
      have ex0wr : wr.cell? ⟨W1.heap.size + 1, 0, none⟩ = some (.int .i64 9) := cell_of_block Zxwr.out 0 (by simp)
      have ex1wr : wr.cell? ⟨W1.heap.size + 1, 1, none⟩ = some (.int .i64 600000) := cell_of_block Zxwr.out 1 (by simp)
      have ex2wr : wr.cell? ⟨W1.heap.size + 1, 2, none⟩ = some (.int .i64 600000) := cell_of_block Zxwr.out 2 (by simp)
      have ex3wr : wr.cell? ⟨W1.heap.size + 1, 3, none⟩ = some (.int .i64 400000) := cell_of_block Zxwr.out 3 (by simp)
      have ex4wr : wr.cell? ⟨W1.heap.size + 1, 4, none⟩ = some (.int .i64 400000) := cell_of_block Zxwr.out 4 (by simp)
      have lxwr := (Array.getElem?_eq_some_iff.1 Zxwr.out).1
      go_wp2_with fail
      refine (Calls.grown (MEA'.out _ (Swr.out))).mono ?_
      rintro e w1 ⟨rfl, z8, rfl⟩
      go_upto_region 18 with (fail)
      obtain ⟨W9, hW9⟩ : ∃ W9, ((gw wr z8)).alloc (.cells #[.int .i64 10, .int .i64 598800, .int .i64 599301, .int .i64 399600, .int .i64 400000] 28) = W9 := ⟨_, rfl⟩
      have hbW9 : Below wr.heap.size wr W9 := by rw [← hW9]; exact (below_gw wr z8).alloc (by simp [gw_size]) _
      have ZcW9 := Lib.hid ((hbW9.block _ (Array.getElem?_eq_some_iff.1 Zcwr.out).1).trans Zcwr.out)
      have ZxW9 := Lib.hid ((hbW9.block _ (Array.getElem?_eq_some_iff.1 Zxwr.out).1).trans Zxwr.out)
      have ZaW9 := Lib.hid ((hbW9.block _ (Array.getElem?_eq_some_iff.1 Zawr.out).1).trans Zawr.out)
      have ZbW9 := Lib.hid ((hbW9.block _ (Array.getElem?_eq_some_iff.1 Zbwr.out).1).trans Zbwr.out)
      have ZdW9 := Lib.hid ((hbW9.block _ (Array.getElem?_eq_some_iff.1 Zdwr.out).1).trans Zdwr.out)
      have ZsW9 := Lib.hid ((hbW9.block _ (Array.getElem?_eq_some_iff.1 Zswr.out).1).trans Zswr.out)
      have ZtW9 := Lib.hid ((hbW9.block _ (Array.getElem?_eq_some_iff.1 Ztwr.out).1).trans Ztwr.out)
      have ZqW9 := Lib.hid ((hbW9.block _ (Array.getElem?_eq_some_iff.1 Zqwr.out).1).trans Zqwr.out)
      have zmW9 : W9.heap[wr.heap.size + z8.bs.size]? = some (.cells #[.int .i64 10, .int .i64 598800, .int .i64 599301, .int .i64 399600, .int .i64 400000] 28 (0, 0)) := by rw [← hW9]; exact alloc_at (by simp [gw_size])
      have ZmW9 := Lib.hid zmW9; clear zmW9
      have HBW9 := Lib.hid (thru hbW9 HBwr.out)
      have SBW9 := Lib.hid hbW9; clear hbW9
      have HWW9 := Lib.hid hW9; clear hW9
      rw [HWW9.out]
      clear ec0wr ec1wr ec2wr ex0wr ex1wr ex2wr ex3wr ex4wr
      have S9 := Lib.hid (Swr.out.trans (SBW9.out.mono Swr.out.size))
      have ec0W9 : W9.cell? ⟨W1.heap.size, 0, none⟩ = some (.int .i64 10) := cell_of_block ZcW9.out 0 (by simp)
      have ec1W9 : W9.cell? ⟨W1.heap.size, 1, none⟩ = some (.slice (some ⟨bA, 0, none⟩) 2 2) := cell_of_block ZcW9.out 1 (by simp)
      have ec2W9 : W9.cell? ⟨W1.heap.size, 2, none⟩ = some (.slice (some ⟨bW, 0, none⟩) 2 2) := cell_of_block ZcW9.out 2 (by simp)
      have lcW9 := (Array.getElem?_eq_some_iff.1 ZcW9.out).1
      have ex0W9 : W9.cell? ⟨W1.heap.size + 1, 0, none⟩ = some (.int .i64 9) := cell_of_block ZxW9.out 0 (by simp)
      have ex1W9 : W9.cell? ⟨W1.heap.size + 1, 1, none⟩ = some (.int .i64 600000) := cell_of_block ZxW9.out 1 (by simp)
      have ex2W9 : W9.cell? ⟨W1.heap.size + 1, 2, none⟩ = some (.int .i64 600000) := cell_of_block ZxW9.out 2 (by simp)
      have ex3W9 : W9.cell? ⟨W1.heap.size + 1, 3, none⟩ = some (.int .i64 400000) := cell_of_block ZxW9.out 3 (by simp)
      have ex4W9 : W9.cell? ⟨W1.heap.size + 1, 4, none⟩ = some (.int .i64 400000) := cell_of_block ZxW9.out 4 (by simp)
      have lxW9 := (Array.getElem?_eq_some_iff.1 ZxW9.out).1
      have em0W9 : W9.cell? ⟨wr.heap.size + z8.bs.size, 0, none⟩ = some (.int .i64 10) := cell_of_block ZmW9.out 0 (by simp)
      have em1W9 : W9.cell? ⟨wr.heap.size + z8.bs.size, 1, none⟩ = some (.int .i64 598800) := cell_of_block ZmW9.out 1 (by simp)
      have em2W9 : W9.cell? ⟨wr.heap.size + z8.bs.size, 2, none⟩ = some (.int .i64 599301) := cell_of_block ZmW9.out 2 (by simp)
      have em3W9 : W9.cell? ⟨wr.heap.size + z8.bs.size, 3, none⟩ = some (.int .i64 399600) := cell_of_block ZmW9.out 3 (by simp)
      have em4W9 : W9.cell? ⟨wr.heap.size + z8.bs.size, 4, none⟩ = some (.int .i64 400000) := cell_of_block ZmW9.out 4 (by simp)
      have lmW9 := (Array.getElem?_eq_some_iff.1 ZmW9.out).1
      go_wp2_with fail
      refine (FL10'.out _ (S9.out)).mono ?_
      rintro e u1 ⟨v1, rfl, own1, hb1⟩
      obtain ⟨a1, c1, rfl, l1⟩ := ints_of_own own1
      have LL1 := Lib.hid l1
      have HU1 := Lib.hid hb1
      clear own1 l1 hb1
      clear ec0W9 ec1W9 ec2W9 ex0W9 ex1W9 ex2W9 ex3W9 ex4W9 em0W9 em1W9 em2W9 em3W9 em4W9
      have SBu1 := Lib.hid (HU1.out)
      have Zcu1 := Lib.hid ((SBu1.out.block _ (Array.getElem?_eq_some_iff.1 ZcW9.out).1).trans ZcW9.out)
      have Zxu1 := Lib.hid ((SBu1.out.block _ (Array.getElem?_eq_some_iff.1 ZxW9.out).1).trans ZxW9.out)
      have Zau1 := Lib.hid ((SBu1.out.block _ (Array.getElem?_eq_some_iff.1 ZaW9.out).1).trans ZaW9.out)
      have Zbu1 := Lib.hid ((SBu1.out.block _ (Array.getElem?_eq_some_iff.1 ZbW9.out).1).trans ZbW9.out)
      have Zdu1 := Lib.hid ((SBu1.out.block _ (Array.getElem?_eq_some_iff.1 ZdW9.out).1).trans ZdW9.out)
      have Zsu1 := Lib.hid ((SBu1.out.block _ (Array.getElem?_eq_some_iff.1 ZsW9.out).1).trans ZsW9.out)
      have Ztu1 := Lib.hid ((SBu1.out.block _ (Array.getElem?_eq_some_iff.1 ZtW9.out).1).trans ZtW9.out)
      have Zqu1 := Lib.hid ((SBu1.out.block _ (Array.getElem?_eq_some_iff.1 ZqW9.out).1).trans ZqW9.out)
      have Zmu1 := Lib.hid ((SBu1.out.block _ (Array.getElem?_eq_some_iff.1 ZmW9.out).1).trans ZmW9.out)
      have HBu1 := Lib.hid (thru SBu1.out HBW9.out)
      have Su1 := Lib.hid (S9.out.trans (SBu1.out.mono S9.out.size))
      have ec0u1 : u1.cell? ⟨W1.heap.size, 0, none⟩ = some (.int .i64 10) := cell_of_block Zcu1.out 0 (by simp)
      have ec1u1 : u1.cell? ⟨W1.heap.size, 1, none⟩ = some (.slice (some ⟨bA, 0, none⟩) 2 2) := cell_of_block Zcu1.out 1 (by simp)
      have ec2u1 : u1.cell? ⟨W1.heap.size, 2, none⟩ = some (.slice (some ⟨bW, 0, none⟩) 2 2) := cell_of_block Zcu1.out 2 (by simp)
      have lcu1 := (Array.getElem?_eq_some_iff.1 Zcu1.out).1
      have ex0u1 : u1.cell? ⟨W1.heap.size + 1, 0, none⟩ = some (.int .i64 9) := cell_of_block Zxu1.out 0 (by simp)
      have ex1u1 : u1.cell? ⟨W1.heap.size + 1, 1, none⟩ = some (.int .i64 600000) := cell_of_block Zxu1.out 1 (by simp)
      have ex2u1 : u1.cell? ⟨W1.heap.size + 1, 2, none⟩ = some (.int .i64 600000) := cell_of_block Zxu1.out 2 (by simp)
      have ex3u1 : u1.cell? ⟨W1.heap.size + 1, 3, none⟩ = some (.int .i64 400000) := cell_of_block Zxu1.out 3 (by simp)
      have ex4u1 : u1.cell? ⟨W1.heap.size + 1, 4, none⟩ = some (.int .i64 400000) := cell_of_block Zxu1.out 4 (by simp)
      have lxu1 := (Array.getElem?_eq_some_iff.1 Zxu1.out).1
      go_wp2_with fail
      refine (FL20'.out _ (Su1.out)).mono ?_
      rintro e u2 ⟨v2, rfl, own2, hb2⟩
      obtain ⟨a2, c2, rfl, l2⟩ := ints_of_own own2
      have LL2 := Lib.hid l2
      have HU2 := Lib.hid hb2
      clear own2 l2 hb2
      clear ec0u1 ec1u1 ec2u1 ex0u1 ex1u1 ex2u1 ex3u1 ex4u1
      have SBu2 := Lib.hid (HU2.out)
      have Zcu2 := Lib.hid ((SBu2.out.block _ (Array.getElem?_eq_some_iff.1 Zcu1.out).1).trans Zcu1.out)
      have Zxu2 := Lib.hid ((SBu2.out.block _ (Array.getElem?_eq_some_iff.1 Zxu1.out).1).trans Zxu1.out)
      have Zau2 := Lib.hid ((SBu2.out.block _ (Array.getElem?_eq_some_iff.1 Zau1.out).1).trans Zau1.out)
      have Zbu2 := Lib.hid ((SBu2.out.block _ (Array.getElem?_eq_some_iff.1 Zbu1.out).1).trans Zbu1.out)
      have Zdu2 := Lib.hid ((SBu2.out.block _ (Array.getElem?_eq_some_iff.1 Zdu1.out).1).trans Zdu1.out)
      have Zsu2 := Lib.hid ((SBu2.out.block _ (Array.getElem?_eq_some_iff.1 Zsu1.out).1).trans Zsu1.out)
      have Ztu2 := Lib.hid ((SBu2.out.block _ (Array.getElem?_eq_some_iff.1 Ztu1.out).1).trans Ztu1.out)
      have Zqu2 := Lib.hid ((SBu2.out.block _ (Array.getElem?_eq_some_iff.1 Zqu1.out).1).trans Zqu1.out)
      have Zmu2 := Lib.hid ((SBu2.out.block _ (Array.getElem?_eq_some_iff.1 Zmu1.out).1).trans Zmu1.out)
      have HBu2 := Lib.hid (thru SBu2.out HBu1.out)
      have Su2 := Lib.hid (Su1.out.trans (SBu2.out.mono Su1.out.size))
      have em0u2 : u2.cell? ⟨wr.heap.size + z8.bs.size, 0, none⟩ = some (.int .i64 10) := cell_of_block Zmu2.out 0 (by simp)
      have em1u2 : u2.cell? ⟨wr.heap.size + z8.bs.size, 1, none⟩ = some (.int .i64 598800) := cell_of_block Zmu2.out 1 (by simp)
      have em2u2 : u2.cell? ⟨wr.heap.size + z8.bs.size, 2, none⟩ = some (.int .i64 599301) := cell_of_block Zmu2.out 2 (by simp)
      have em3u2 : u2.cell? ⟨wr.heap.size + z8.bs.size, 3, none⟩ = some (.int .i64 399600) := cell_of_block Zmu2.out 3 (by simp)
      have em4u2 : u2.cell? ⟨wr.heap.size + z8.bs.size, 4, none⟩ = some (.int .i64 400000) := cell_of_block Zmu2.out 4 (by simp)
      have lmu2 := (Array.getElem?_eq_some_iff.1 Zmu2.out).1
      have es0u2 : u2.cell? ⟨W5.heap.size + z4.bs.size, 0, none⟩ = some (.int .i64 6000) := cell_of_block Zsu2.out 0 (by simp)
      have es1u2 : u2.cell? ⟨W5.heap.size + z4.bs.size, 1, none⟩ = some (.int .i64 6000) := cell_of_block Zsu2.out 1 (by simp)
      have lsu2 := (Array.getElem?_eq_some_iff.1 Zsu2.out).1
      have et0u2 : u2.cell? ⟨W6.heap.size + z5.bs.size, 0, none⟩ = some (.int .i64 5995) := cell_of_block Ztu2.out 0 (by simp)
      have et1u2 : u2.cell? ⟨W6.heap.size + z5.bs.size, 1, none⟩ = some (.int .i64 6000) := cell_of_block Ztu2.out 1 (by simp)
      have ltu2 := (Array.getElem?_eq_some_iff.1 Ztu2.out).1
      go_upto_region 21 with (fail)
      have CS := Lib.hid (fun (W : World) (hb : Below u2.heap.size u2 W) => (hb.block _ (Array.getElem?_eq_some_iff.1 Zsu2.out).1).trans Zsu2.out)
      have CT := Lib.hid (fun (W : World) (hb : Below u2.heap.size u2 W) => (hb.block _ (Array.getElem?_eq_some_iff.1 Ztu2.out).1).trans Ztu2.out)
      have BD := Lib.hid (below_drew u2)
      clear AT9' AT10' AT11' STX' STB' WKA' WKB' SH0' SH1' SH2' SH3' MEA' FL10' FL20'
      refine wp_region_plan (fun w' => ∃ x, w' = gw u2 x) (.step [0] 1 (.step [2, 3, 4, 5, 6, 7] 8 (.step [9, 10, 11, 12, 13, 14, 15, 16, 17, 18, 19, 20, 21, 22, 23, 24, 25, 26, 27, 28] 29 (.step [] 30 (.step [31, 32, 33] 34 (.step [] 35 (.last [36, 37]))))))) (by kernel_rfl) (by kernel_rfl) ?_
      rintro _ ⟨x200, rfl⟩
      refine ⟨⟨_, rfl⟩, ?_⟩
      refine wpPlan_step ?_
      simp only [pickL, List.getElem?_cons_zero, List.getElem?_cons_succ]
      repeat (go_big_quiet_step (fail))
      refine wpQuiet_nil ?_
      go_wp2_with fail
      rename_i KK hKK
      refine (alive_any _).mono ?_
      rintro e w1 ⟨rfl, hbx201⟩
      obtain ⟨x201, hxx201⟩ := gw_of_below (thru hbx201 (below_gw u2 x200))
      subst hxx201
      refine hKK _ _ (contQ_nil ⟨⟨_, rfl⟩, ?_⟩)
      clear hKK KK hbx201
      refine wpPlan_step ?_
      simp only [pickL, List.getElem?_cons_zero, List.getElem?_cons_succ]
      repeat (go_big_quiet_step (fail))
      refine wpQuiet_nil ?_
      go_wp2_with fail
      rename_i KK hKK
      refine (one_b _ _).mono ?_
      rintro e w1 ⟨rfl, hbx202⟩
      obtain ⟨x202, hxx202⟩ := gw_of_below (thru hbx202 (below_gw u2 x201))
      subst hxx202
      refine hKK _ _ (contQ_nil ⟨⟨_, rfl⟩, ?_⟩)
      clear hKK KK hbx202
      refine wpPlan_step ?_
      simp only [pickL, List.getElem?_cons_zero, List.getElem?_cons_succ]
      repeat (go_big_quiet_step (fail))
      refine wpQuiet_nil ?_
      go_wp2_with fail
      have hbx203 := below_alloc (gw u2 x202) (.cells #[.int .i64 1, .int .i64 0] 3)
      have zz : ((gw u2 x202).alloc (.cells #[.int .i64 1, .int .i64 0] 3)).heap[u2.heap.size + x202.bs.size]? = some (.cells #[.int .i64 1, .int .i64 0] 3 (0, 0)) := alloc_at (by rw [gw_size])
      obtain ⟨x203, hxx203⟩ := gw_of_below (thru hbx203 (below_gw u2 x202))
      rw [hxx203] at zz hbx203 ⊢
      have Zb1x203 := Lib.hid zz; clear zz hbx203 hxx203
      refine contQ_now ⟨⟨_, rfl⟩, ?_⟩
      refine wpPlan_step ?_
      simp only [pickL, List.getElem?_cons_zero, List.getElem?_cons_succ]
      repeat (go_big_quiet_step (fail))
      refine wpQuiet_nil ?_
      go_wp2_with fail
      rename_i KK hKK
      refine (sameInts_t a1 (some ⟨u2.heap.size + x202.bs.size, 0, none⟩) 2 c1 2 D10 (gw u2 x203) (by omega) (LL1.out.below (thru (below_gw u2 x203) HU2.out)) (ints_lit Zb1x203.out HDD10.out)).mono ?_
      rintro e w1 ⟨rfl, hbx204⟩
      obtain ⟨x204, hxx204⟩ := gw_of_below (thru hbx204 (below_gw u2 x203))
      subst hxx204
      have Zb1x204 := Lib.hid ((hbx204.block _ (Array.getElem?_eq_some_iff.1 Zb1x203.out).1).trans Zb1x203.out)
      refine hKK _ _ (contQ_nil ⟨⟨_, rfl⟩, ?_⟩)
      clear hKK KK hbx204
      refine wpPlan_step ?_
      simp only [pickL, List.getElem?_cons_zero, List.getElem?_cons_succ]
      repeat (go_big_quiet_step (fail))
      refine wpQuiet_nil ?_
      go_wp2_with fail
      have hbx205 := below_alloc (gw u2 x204) (.cells #[.int .i64 0, .int .i64 1] 3)
      have zz : ((gw u2 x204).alloc (.cells #[.int .i64 0, .int .i64 1] 3)).heap[u2.heap.size + x204.bs.size]? = some (.cells #[.int .i64 0, .int .i64 1] 3 (0, 0)) := alloc_at (by rw [gw_size])
      obtain ⟨x205, hxx205⟩ := gw_of_below (thru hbx205 (below_gw u2 x204))
      rw [hxx205] at zz hbx205 ⊢
      have Zb1x205 := Lib.hid ((hbx205.block _ (Array.getElem?_eq_some_iff.1 Zb1x204.out).1).trans Zb1x204.out)
      have Zb2x205 := Lib.hid zz; clear zz hbx205 hxx205
      refine contQ_now ⟨⟨_, rfl⟩, ?_⟩
      refine wpPlan_step ?_
      simp only [pickL, List.getElem?_cons_zero, List.getElem?_cons_succ]
      repeat (go_big_quiet_step (fail))
      refine wpQuiet_nil ?_
      go_wp2_with fail
      rename_i KK hKK
      refine (sameInts_t a2 (some ⟨u2.heap.size + x204.bs.size, 0, none⟩) 2 c2 2 D20 (gw u2 x205) (by omega) (LL2.out.below (below_gw u2 x205)) (ints_lit Zb2x205.out HDD20.out)).mono ?_
      rintro e w1 ⟨rfl, hbx206⟩
      obtain ⟨x206, hxx206⟩ := gw_of_below (thru hbx206 (below_gw u2 x205))
      subst hxx206
      have Zb1x206 := Lib.hid ((hbx206.block _ (Array.getElem?_eq_some_iff.1 Zb1x205.out).1).trans Zb1x205.out)
      have Zb2x206 := Lib.hid ((hbx206.block _ (Array.getElem?_eq_some_iff.1 Zb2x205.out).1).trans Zb2x205.out)
      refine hKK _ _ (contQ_nil ⟨⟨_, rfl⟩, ?_⟩)
      clear hKK KK hbx206
      refine wpPlan_last ?_
      simp only [pickL, List.getElem?_cons_zero, List.getElem?_cons_succ]
      repeat (go_big_quiet_step (fail))
      refine wpQuiet_nil ?_
      refine contN_nil ?_
      go_wp2_with fail
      go_ret
      exact ⟨rfl, HBu2.out.gw x206⟩
end Go.Proofs.Ytljofnmgddfljaa
