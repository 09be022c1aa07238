/- Contract of awake04: true. No conditions beyond each theorem's own. -/
import Derived.Test.YtfefmgadfklgmaaHg
import Derived.Test.YtfefmgadfklgmaaBe
import Derived.Test.YtfefmgadfklgmaaGh
import Derived.Test.YtfefmgadfklgmaaSz
import Derived.Test.YtfefmgadfklgmaaAb
set_option linter.unusedVariables false
set_option linter.unusedSimpArgs false
set_option linter.unusedSectionVars false
set_option linter.constructorNameAsVariable false
namespace Go.Proofs.Ytfefmgadfklgmaa
open Go.RowKit

attribute [local go_sem] gw_cell gw_frozen gw_size
theorem jcell {W w1 : World} {b o : Nat} {v : Value} (hb : Below W.heap.size W w1) (h : W.cell? ⟨b, o, none⟩ = some v) : w1.cell? ⟨b, o, none⟩ = some v :=
  (hb.cell (p := ⟨b, o, none⟩) (World.block_lt_of_cell? W _ h)).trans h
theorem one_any (n : Int) (w : World) : Calls Try.prog 18 #[.int .i64 n] w fun e w' => e = .returned (.agg #[.int .i64 n, .int .i64 n]) ∧ Below w.heap.size w w' := by
  go_enter Try.func18, Try.ntmps18
  go_wp2
  refine bodyPost_ret (v := .agg #[.int .i64 n, .int .i64 n]) (by simp [results, Try.results18, go_sem]) rfl ⟨rfl, below_alloc w _⟩
/-- the example's step, mash, curve and pot -/
def exK (k : Int) : Nat → Int := fun _ => k
theorem ex_play : L2.playE 1000 1000 150 150 0 0 1 (exK 0) (exK 7) (exK 9) = 0 := by decide +kernel
theorem ex_malt : ((L2.vt6 1000 1000 150 150 0 0).at (exK 0) (exK 7) (exK 9) 1).malt = .agg #[.int .i64 1000, .int .i64 1000, .int .i64 157, .int .i64 159, .int .i64 0, .int .i64 0] := by rfl
theorem ex_loss : ((L2.vt6 1000 1000 150 150 0 0).at (exK 0) (exK 7) (exK 9) 1).loss = .agg #[.int .i64 7, .int .i64 9, .int .i64 0, .int .i64 0, .int .i64 0, .int .i64 0, .int .i64 0, .int .i64 0] := by rfl
def exM : Msh := ⟨1000, 4000, 700, 750, 1000, 1200⟩
theorem ex_mash : (mashO exM).val (mashE exM) = .tuple #[.agg #[.int .i64 490, .int .i64 563, .int .i64 2800, .int .i64 3000], .agg #[.int .i64 175, .int .i64 225], .int .i64 0] := by kernel_rfl
def exC : L4.Crv := ⟨4, fun i => [0, 1000, 5000, 10000].getD i 0, fun i => [0, 5000, 8000, 10000].getD i 0, fun i => [0, 5200, 8100, 10000].getD i 0⟩
def exP : L4.Pot3 := ⟨10000, 1000, 1000⟩
theorem ex_err : L4.runErr 4 exC exP (fun _ => 1000) 1 = 0 := by decide +kernel
theorem ex_out : exC.outAt exP (fun _ => 1000) 0 = ⟨1000, 266, 520⟩ := by rfl
theorem ex_watE : L1.watE 1000 1000 6000 6000 4000 = 0 := by decide +kernel
theorem ex_watN : L1.watN 1000 1000 6000 6000 4000 = 500 := by decide +kernel
theorem infoDr : (Try.prog.info? 63).map (fun i => (i.zero, i.size)) = some (some (.agg #[.int .i64 0, .int .i64 0, .int .i64 0]), 3) := by kernel_rfl
theorem infoPo : (Try.prog.info? 58).map (fun i => (i.zero, i.size)) = some (some (.agg #[.int .i64 0, .int .i64 0, .int .i64 0]), 3) := by kernel_rfl

set_option maxRecDepth 100000 in
set_option maxHeartbeats 8000000 in
theorem awake_any (w : World) : Calls Try.prog 7 #[] w fun e w' => e = .returned (.bool true) ∧ Below w.heap.size w w' := by
  have H1 := Lib.hid (fun w => one_any 1000 w)
  have H2 := Lib.hid (fun w => one_any 150 w)
  have H6 := Lib.hid (fun w => one_any 6000 w)
  go_enter Try.func7, Try.ntmps7
  go_wp2_with fail
  refine (Calls.grown (H1.out _)).mono ?_
  rintro e w1 ⟨rfl, z1, rfl⟩
  go_wp2_with fail
  refine (Calls.gw_of (H2.out _)).mono ?_
  rintro e w1 ⟨rfl, z2, rfl⟩
  go_wp2_with fail
  obtain ⟨V1, hV1⟩ : ∃ V, gw w z2 = V := ⟨_, rfl⟩
  have s1 : w.heap.size + z2.bs.size = V1.heap.size := by rw [← hV1, gw_size]
  have B1 := Lib.hid (show Below w.heap.size w V1 by rw [← hV1]; exact below_gw w z2)
  rw [s1, hV1]
  clear s1 hV1
  have hS : L2.StepsAt (V1.alloc (.cells #[.int .i64 0, .int .i64 7, .int .i64 9] 70)) (some ⟨V1.heap.size, 0, none⟩) 1 (exK 0) (exK 7) (exK 9) := .inr ⟨V1.heap.size, 0, rfl, by simp, fun i hi => by obtain rfl : i = 0 := (by omega); have z := alloc_at (w := V1) (o := .cells #[.int .i64 0, .int .i64 7, .int .i64 9] 70) rfl; exact ⟨cell_of_block z 0 (by simp), cell_of_block z 1 (by simp), cell_of_block z 2 (by simp)⟩⟩
  refine (L2.Play_any 1000 1000 150 150 0 0 _ 1 1 (exK 0) (exK 7) (exK 9) _ hS).mono ?_
  rintro e w3 ⟨hb3, ⟨h0, rfl⟩ | ⟨h0, _⟩⟩
  rotate_left
  · exact absurd ex_play h0
  rw [ex_malt, ex_loss]
  clear h0 hS
  have B3 := Lib.hid (B1.out.trans (((below_alloc _ _).trans (hb3.mono (by simp))).mono B1.out.size))
  clear hb3
  go_upto_region 3 with (fail)
  obtain ⟨V2, hV2⟩ : ∃ V2, ((w3).alloc (.cells #[.int .i64 1000, .int .i64 1000, .int .i64 157, .int .i64 159, .int .i64 0, .int .i64 0] 25)).alloc (.cells #[.int .i64 7, .int .i64 9, .int .i64 0, .int .i64 0, .int .i64 0, .int .i64 0, .int .i64 0, .int .i64 0] 43) = V2 := ⟨_, rfl⟩
  have hBc : Below w3.heap.size w3 V2 := by rw [← hV2]; exact (below_alloc _ _).alloc (by simp) _
  have zc0 : V2.heap[w3.heap.size]? = some (.cells #[.int .i64 1000, .int .i64 1000, .int .i64 157, .int .i64 159, .int .i64 0, .int .i64 0] 25 (0, 0)) := by rw [← hV2]; exact alloc_keep (alloc_at rfl)
  have zc1 : V2.heap[w3.heap.size + 1]? = some (.cells #[.int .i64 7, .int .i64 9, .int .i64 0, .int .i64 0, .int .i64 0, .int .i64 0, .int .i64 0, .int .i64 0] 43 (0, 0)) := by rw [← hV2]; exact alloc_at (by simp)
  have c00 : V2.cell? ⟨w3.heap.size, 0, none⟩ = some (.int .i64 1000) := cell_of_block zc0 0 (by simp)
  have c01 : V2.cell? ⟨w3.heap.size, 1, none⟩ = some (.int .i64 1000) := cell_of_block zc0 1 (by simp)
  have c02 : V2.cell? ⟨w3.heap.size, 2, none⟩ = some (.int .i64 157) := cell_of_block zc0 2 (by simp)
  have c03 : V2.cell? ⟨w3.heap.size, 3, none⟩ = some (.int .i64 159) := cell_of_block zc0 3 (by simp)
  have c04 : V2.cell? ⟨w3.heap.size, 4, none⟩ = some (.int .i64 0) := cell_of_block zc0 4 (by simp)
  have c05 : V2.cell? ⟨w3.heap.size, 5, none⟩ = some (.int .i64 0) := cell_of_block zc0 5 (by simp)
  have c10 : V2.cell? ⟨w3.heap.size + 1, 0, none⟩ = some (.int .i64 7) := cell_of_block zc1 0 (by simp)
  have c11 : V2.cell? ⟨w3.heap.size + 1, 1, none⟩ = some (.int .i64 9) := cell_of_block zc1 1 (by simp)
  have c12 : V2.cell? ⟨w3.heap.size + 1, 2, none⟩ = some (.int .i64 0) := cell_of_block zc1 2 (by simp)
  have c13 : V2.cell? ⟨w3.heap.size + 1, 3, none⟩ = some (.int .i64 0) := cell_of_block zc1 3 (by simp)
  have c14 : V2.cell? ⟨w3.heap.size + 1, 4, none⟩ = some (.int .i64 0) := cell_of_block zc1 4 (by simp)
  have c15 : V2.cell? ⟨w3.heap.size + 1, 5, none⟩ = some (.int .i64 0) := cell_of_block zc1 5 (by simp)
  have c16 : V2.cell? ⟨w3.heap.size + 1, 6, none⟩ = some (.int .i64 0) := cell_of_block zc1 6 (by simp)
  have c17 : V2.cell? ⟨w3.heap.size + 1, 7, none⟩ = some (.int .i64 0) := cell_of_block zc1 7 (by simp)
  have lc0 := (Array.getElem?_eq_some_iff.1 zc0).1
  have lc1 := (Array.getElem?_eq_some_iff.1 zc1).1
  have Zc0 := Lib.hid zc0
  clear zc0 zc1
  have HBc := Lib.hid hBc; clear hBc
  have HWc := Lib.hid hV2; clear hV2
  rw [HWc.out]
  clear c00 c01 c02 c03 c04 c05 c10 c11 c12 c13 c14 c15 c16 c17 lc1
  have HM := Mash_any exM
  rw [ex_mash] at HM
  unfold Msh.val exM at HM
  have HMM := Lib.hid (fun w => (show Calls Try.prog 10 #[.agg #[.int .i64 1000, .int .i64 4000, .int .i64 700, .int .i64 750, .int .i64 1000, .int .i64 1200]] w _ from HM w))
  clear HM
  go_wp2_with fail
  refine (HMM.out _).mono ?_
  rintro e w4 ⟨rfl, hb4⟩
  have B4 := Lib.hid (B3.out.trans ((HBc.out.trans (hb4.mono HBc.out.size)).mono B3.out.size))
  have Zm := Lib.hid ((hb4.block _ lc0).trans Zc0.out)
  clear hb4 lc0 Zc0 HBc HWc
  have l3 := (Array.getElem?_eq_some_iff.1 Zm.out).1
  go_upto_region 5 with (fail)
  obtain ⟨V5, hV5⟩ : ∃ V5, (((((w4).alloc (.cells #[.int .i64 490, .int .i64 563, .int .i64 2800, .int .i64 3000] 49)).alloc (.cells #[.int .i64 175, .int .i64 225] 23)).alloc (.cells #[.int .i64 0, .int .i64 1000, .int .i64 5000, .int .i64 10000] 3)).alloc (.cells #[.int .i64 0, .int .i64 0, .int .i64 5000, .int .i64 5200, .int .i64 8000, .int .i64 8100, .int .i64 10000, .int .i64 10000] 23)).alloc (.cells #[.slice (some ⟨w4.heap.size + 1 + 1, 0, none⟩) 4 4, .slice (some ⟨w4.heap.size + 1 + 1 + 1, 0, none⟩) 4 4] 34) = V5 := ⟨_, rfl⟩
  have hBd : Below w4.heap.size w4 V5 := by rw [← hV5]; exact ((((below_alloc _ _).alloc (by simp) _).alloc (by simp <;> omega) _).alloc (by simp <;> omega) _).alloc (by simp <;> omega) _
  have zd0 : V5.heap[w4.heap.size]? = some (.cells #[.int .i64 490, .int .i64 563, .int .i64 2800, .int .i64 3000] 49 (0, 0)) := by rw [← hV5]; exact alloc_keep (alloc_keep (alloc_keep (alloc_keep (alloc_at rfl))))
  have zd1 : V5.heap[w4.heap.size + 1]? = some (.cells #[.int .i64 175, .int .i64 225] 23 (0, 0)) := by rw [← hV5]; exact alloc_keep (alloc_keep (alloc_keep (alloc_at (by simp))))
  have zd2 : V5.heap[w4.heap.size + 1 + 1]? = some (.cells #[.int .i64 0, .int .i64 1000, .int .i64 5000, .int .i64 10000] 3 (0, 0)) := by rw [← hV5]; exact alloc_keep (alloc_keep (alloc_at (by simp <;> omega)))
  have zd3 : V5.heap[w4.heap.size + 1 + 1 + 1]? = some (.cells #[.int .i64 0, .int .i64 0, .int .i64 5000, .int .i64 5200, .int .i64 8000, .int .i64 8100, .int .i64 10000, .int .i64 10000] 23 (0, 0)) := by rw [← hV5]; exact alloc_keep (alloc_at (by simp <;> omega))
  have zd4 : V5.heap[w4.heap.size + 1 + 1 + 1 + 1]? = some (.cells #[.slice (some ⟨w4.heap.size + 1 + 1, 0, none⟩) 4 4, .slice (some ⟨w4.heap.size + 1 + 1 + 1, 0, none⟩) 4 4] 34 (0, 0)) := by rw [← hV5]; exact alloc_at (by simp <;> omega)
  have d00 : V5.cell? ⟨w4.heap.size, 0, none⟩ = some (.int .i64 490) := cell_of_block zd0 0 (by simp)
  have d01 : V5.cell? ⟨w4.heap.size, 1, none⟩ = some (.int .i64 563) := cell_of_block zd0 1 (by simp)
  have d02 : V5.cell? ⟨w4.heap.size, 2, none⟩ = some (.int .i64 2800) := cell_of_block zd0 2 (by simp)
  have d03 : V5.cell? ⟨w4.heap.size, 3, none⟩ = some (.int .i64 3000) := cell_of_block zd0 3 (by simp)
  have d10 : V5.cell? ⟨w4.heap.size + 1, 0, none⟩ = some (.int .i64 175) := cell_of_block zd1 0 (by simp)
  have d11 : V5.cell? ⟨w4.heap.size + 1, 1, none⟩ = some (.int .i64 225) := cell_of_block zd1 1 (by simp)
  have d20 : V5.cell? ⟨w4.heap.size + 1 + 1, 0, none⟩ = some (.int .i64 0) := cell_of_block zd2 0 (by simp)
  have d21 : V5.cell? ⟨w4.heap.size + 1 + 1, 1, none⟩ = some (.int .i64 1000) := cell_of_block zd2 1 (by simp)
  have d22 : V5.cell? ⟨w4.heap.size + 1 + 1, 2, none⟩ = some (.int .i64 5000) := cell_of_block zd2 2 (by simp)
  have d23 : V5.cell? ⟨w4.heap.size + 1 + 1, 3, none⟩ = some (.int .i64 10000) := cell_of_block zd2 3 (by simp)
  have d30 : V5.cell? ⟨w4.heap.size + 1 + 1 + 1, 0, none⟩ = some (.int .i64 0) := cell_of_block zd3 0 (by simp)
  have d31 : V5.cell? ⟨w4.heap.size + 1 + 1 + 1, 1, none⟩ = some (.int .i64 0) := cell_of_block zd3 1 (by simp)
  have d32 : V5.cell? ⟨w4.heap.size + 1 + 1 + 1, 2, none⟩ = some (.int .i64 5000) := cell_of_block zd3 2 (by simp)
  have d33 : V5.cell? ⟨w4.heap.size + 1 + 1 + 1, 3, none⟩ = some (.int .i64 5200) := cell_of_block zd3 3 (by simp)
  have d34 : V5.cell? ⟨w4.heap.size + 1 + 1 + 1, 4, none⟩ = some (.int .i64 8000) := cell_of_block zd3 4 (by simp)
  have d35 : V5.cell? ⟨w4.heap.size + 1 + 1 + 1, 5, none⟩ = some (.int .i64 8100) := cell_of_block zd3 5 (by simp)
  have d36 : V5.cell? ⟨w4.heap.size + 1 + 1 + 1, 6, none⟩ = some (.int .i64 10000) := cell_of_block zd3 6 (by simp)
  have d37 : V5.cell? ⟨w4.heap.size + 1 + 1 + 1, 7, none⟩ = some (.int .i64 10000) := cell_of_block zd3 7 (by simp)
  have d40 : V5.cell? ⟨w4.heap.size + 1 + 1 + 1 + 1, 0, none⟩ = some (.slice (some ⟨w4.heap.size + 1 + 1, 0, none⟩) 4 4) := cell_of_block zd4 0 (by simp)
  have d41 : V5.cell? ⟨w4.heap.size + 1 + 1 + 1 + 1, 1, none⟩ = some (.slice (some ⟨w4.heap.size + 1 + 1 + 1, 0, none⟩) 4 4) := cell_of_block zd4 1 (by simp)
  have ld0 := (Array.getElem?_eq_some_iff.1 zd0).1
  have ld1 := (Array.getElem?_eq_some_iff.1 zd1).1
  have ld2 := (Array.getElem?_eq_some_iff.1 zd2).1
  have ld3 := (Array.getElem?_eq_some_iff.1 zd3).1
  have ld4 := (Array.getElem?_eq_some_iff.1 zd4).1
  have Zd0 := Lib.hid zd0
  clear zd0 zd1 zd2 zd3 zd4
  have HBd := Lib.hid hBd; clear hBd
  have HWd := Lib.hid hV5; clear hV5
  rw [HWd.out]
  have hL : IntsAt V5 (some ⟨w4.heap.size + 1 + 1, 0, none⟩) 4 exC.L := .inr ⟨_, 0, rfl, ld2, fun i hi => by rcases (show i = 0 ∨ i = 1 ∨ i = 2 ∨ i = 3 by omega) with rfl | rfl | rfl | rfl; exact d20; exact d21; exact d22; exact d23⟩
  have hV : SpansAt V5 (some ⟨w4.heap.size + 1 + 1 + 1, 0, none⟩) 4 exC.A exC.B := .inr ⟨_, 0, rfl, ld3, fun i hi => by rcases (show i = 0 ∨ i = 1 ∨ i = 2 ∨ i = 3 by omega) with rfl | rfl | rfl | rfl; exact ⟨d30, d31⟩; exact ⟨d32, d33⟩; exact ⟨d34, d35⟩; exact ⟨d36, d37⟩⟩
  obtain ⟨Y, hY⟩ : ∃ Y, exC.potAt exP (fun _ => 1000) 1 = Y := ⟨_, rfl⟩
  have DR := Lib.hid (fun W (hb : Below V5.heap.size V5 W) => L4.drawF_ok (some ⟨w4.heap.size + 1 + 1, 0, none⟩) (some ⟨w4.heap.size + 1 + 1 + 1, 0, none⟩) 4 4 4 exC exP 1000 W (by decide) (by decide) (hL.below hb) (hV.below hb) ex_err ⟨1000, 266, 520⟩ Y ex_out.symm hY.symm)
  have Zm5 := Lib.hid ((HBd.out.block _ l3).trans Zm.out)
  have l35 := (Array.getElem?_eq_some_iff.1 Zm5.out).1
  have B5 := Lib.hid (B4.out.trans (HBd.out.mono B4.out.size))
  clear d20 d21 d22 d23 d30 d31 d32 d33 d34 d35 d36 d37 d10 d11 d00 d01 d02 d03 hL hV hY HBd HWd Zm B4 l3 ld1 ld2 ld3
  refine wp_region_box2 [true, true, true, true, true, true, true, true, true, false, false, false, false, true] 9 11 10 12 #[.int .i64 0, .int .i64 0, .int .i64 0] #[.int .i64 1000, .int .i64 266, .int .i64 520] #[.int .i64 0, .int .i64 0, .int .i64 0] #[.int .i64 Y.v, .int .i64 Y.lo, .int .i64 Y.hi] (by kernel_rfl) rfl rfl rfl rfl rfl (by kernel_rfl) rfl (by kernel_rfl) rfl (by kernel_rfl) rfl infoDr rfl rfl (by simp [Value.oneCell']) infoPo rfl rfl (by simp [Value.oneCell']) ?_
  apply Exists.intro
  refine ⟨fun S hS hx => ?_, ?_, ?_, ?_⟩
  · obtain ⟨x0, hx0⟩ := hx
    haveI : Nonempty (GrewS V5 S) := ⟨⟨x0, hx0⟩⟩
    simp only [pickM]
    repeat (go_big_quiet_step (first | exact Calls.gwS hS (H1.out _) | (go_at_call 19; exact Calls.gwS hS (DR.out _ (below_gw V5 _)))))
    exact wpQuiet_nil rfl
  · rfl
  · rfl
  intro B Bp w5 hBw hBw2 hBB hblk hblk2 hb5
  simp only [Act.put, List.setIfInBounds_toArray, List.set_cons_succ, List.set_cons_zero]
  have m2 : w5.cell? ⟨w3.heap.size, 2, none⟩ = some (.int .i64 157) := jcell hb5 (cell_of_block Zm5.out 2 (by simp))
  have m3 : w5.cell? ⟨w3.heap.size, 3, none⟩ = some (.int .i64 159) := jcell hb5 (cell_of_block Zm5.out 3 (by simp))
  have n0 : w5.cell? ⟨w4.heap.size, 0, none⟩ = some (.int .i64 490) := jcell hb5 (cell_of_block Zd0.out 0 (by simp))
  have n1 : w5.cell? ⟨w4.heap.size, 1, none⟩ = some (.int .i64 563) := jcell hb5 (cell_of_block Zd0.out 1 (by simp))
  have p1 : w5.cell? ⟨B, 1, none⟩ = some (.int .i64 266) := cell_of_block hblk 1 (by simp)
  have p2 : w5.cell? ⟨B, 2, none⟩ = some (.int .i64 520) := cell_of_block hblk 2 (by simp)
  have lB := (Array.getElem?_eq_some_iff.1 hblk).1
  have lm : w3.heap.size < w5.heap.size := Nat.lt_of_lt_of_le l35 hb5.size
  have ln : w4.heap.size < w5.heap.size := Nat.lt_of_lt_of_le ld0 hb5.size
  have B6 := Lib.hid (B5.out.trans (hb5.mono B5.out.size))
  have WA := L1.Water_any 1000 1000 6000 6000 4000
  rw [ex_watE, ex_watN] at WA
  have WA := Lib.hid WA
  clear hblk hblk2 hb5 hBB hBw hBw2
  go_wp2_with fail
  refine (Calls.grown (H1.out _)).mono ?_
  rintro e w6 ⟨rfl, z6, rfl⟩
  go_wp2_with fail
  refine (Calls.gw_of (H6.out _)).mono ?_
  rintro e w6 ⟨rfl, z7, rfl⟩
  go_wp2_with fail
  refine (Calls.gw_of (WA.out _)).mono ?_
  rintro e w6 ⟨rfl, z8, rfl⟩
  go_wp2_with fail
  go_ret
  exact ⟨rfl, B6.out.gw z8⟩
end Go.Proofs.Ytfefmgadfklgmaa
