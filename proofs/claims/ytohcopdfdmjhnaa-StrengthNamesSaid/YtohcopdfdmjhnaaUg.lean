/- The law StrengthNames returns true. No conditions beyond each theorem's own. -/
import Derived.Test.YtohcopdfdmjhnaaTd
import Derived.Test.YtohcopdfdmjhnaaSt
set_option linter.unusedVariables false
set_option linter.unusedSimpArgs false
set_option linter.unusedSectionVars false
set_option linter.constructorNameAsVariable false
namespace Go.Proofs.Ytohcopdfdmjhnaa.L1
open Go.RowKit
open Go.Proofs.Ytohcopdfdmjhnaa

attribute [local go_sem] gw_cell gw_frozen gw_size

theorem infoSpn : (Try.prog.info? 27).map (fun i => (i.zero, i.size)) = some (some (.agg #[.int .i64 0, .int .i64 0]), 2) := by kernel_rfl

theorem sp_warm (b : Nat) : (sampT b).fitT 250 250 = true := by kernel_rfl
theorem sp_fr (b : Nat) : (sampT b).tb.frN 4220 250 250 = 4000 :=
  frN_at (samp_good b) (Tab.fitT_t (sp_warm b)) (by show 4000 < 10001; omega) (fun j hj => by obtain rfl : j = 3999 := (by omega); kernel_rfl) (by kernel_rfl)
theorem sp_pa (b : Nat) : (sampT b).tb.paN 4220 250 250 = 4001 :=
  paN_at (samp_good b) (Tab.fitT_t (sp_warm b)) (by show 4001 < 10001; omega) (fun j hj => by obtain rfl : j = 4000 := (by omega); kernel_rfl) (by kernel_rfl)
theorem sp_none (b : Nat) : (sampT b).tb.noneB 4220 4220 250 250 = false := Tb.noneB_f.2 ⟨by rw [sp_fr]; show 4000 < 10001; omega, by rw [sp_pa]; omega⟩
theorem sp_strE (b : Nat) : (sampT b).strE 4220 4220 250 250 = 0 := Tab.strE_ok (samp_ok b) (by omega) (sp_warm b) (sp_none b)
theorem sp_from (b : Nat) : (sampT b).tb.from_ 4220 250 250 = 4000 := by unfold Tb.from_; rw [sp_fr]; rfl
theorem sp_past (b : Nat) : (sampT b).tb.past 4220 250 250 = 4001 := by unfold Tb.past; rw [sp_pa]; rfl
theorem sp_strL (b : Nat) : (sampT b).strL 4220 4220 250 250 = 4000 := by
  unfold Tab.strL; rw [if_pos (sp_strE b)]; unfold Tb.strLo; rw [sp_from]
  refine if_neg fun h => h.2 ?_
  kernel_rfl
theorem sp_strH (b : Nat) : (sampT b).strH 4220 4220 250 250 = 4000 := by
  unfold Tab.strH; rw [if_pos (sp_strE b)]; unfold Tb.strHi; rw [sp_past]
  refine if_neg fun h => h.2 ?_
  kernel_rfl
theorem sq_warm (b : Nat) : (sampT b).fitT 200 200 = true := by kernel_rfl
theorem sq_last (b : Nat) : (sampT b).tb.frB 11000 200 200 10000 = false := by kernel_rfl
theorem sq_fr (b : Nat) : (sampT b).tb.frN 11000 200 200 = (sampT b).tb.cnt :=
  frN_end (samp_good b) (Tab.fitT_t (sq_warm b)) (fun j hj => by have h2 : (sampT b).tb.cnt = 10001 := rfl; obtain rfl : j = 10000 := (by omega); exact sq_last b)
theorem sq_strE (b : Nat) : (sampT b).strE 11000 11000 200 200 = 4 := Tab.strE_none (samp_ok b) (by omega) (sq_warm b) (Tb.noneB_t.2 (.inl (Nat.le_of_eq (sq_fr b).symm)))
theorem sq_str (b : Nat) : (sampT b).strL 11000 11000 200 200 = 0 ∧ (sampT b).strH 11000 11000 200 200 = 0 := Tab.str_zero (by rw [sq_strE]; decide)
theorem nm_mixE : mixE 2 sampP 0 = 0 := by kernel_rfl
theorem nm_mixV : mixV 2 sampP 0 = ⟨2000, 2000, 5000, 5000⟩ := by kernel_rfl

theorem sh0 (b : Nat) : (sampT b).shE 5000 5000 200 200 = 0 ∧ (sampT b).shLo 5000 5000 200 200 = 5000 ∧ (sampT b).shHi 5000 5000 200 200 = 5000 := ⟨by kernel_rfl, by kernel_rfl, by kernel_rfl⟩
theorem sh1 (b : Nat) : (sampT b).shE 4000 4000 250 250 = 0 ∧ (sampT b).shLo 4000 4000 250 250 = 4220 ∧ (sampT b).shHi 4000 4000 250 250 = 4220 := ⟨by kernel_rfl, by kernel_rfl, by kernel_rfl⟩
theorem sh2 (b : Nat) : (sampT b).shE 4000 5000 200 300 = 0 ∧ (sampT b).shLo 4000 5000 200 300 = 4000 ∧ (sampT b).shHi 4000 5000 200 300 = 5500 := ⟨by kernel_rfl, by kernel_rfl, by kernel_rfl⟩
theorem nm_pure : purE 1000 1001 4000 4001 = 0 ∧ purL 1000 1001 4000 4001 = 400 ∧ purH 1000 1001 4000 4001 = 401 := ⟨by kernel_rfl, by kernel_rfl, by kernel_rfl⟩
theorem nm_wat1 : watE 1000 1000 6000 6000 4000 = 0 ∧ watN 1000 1000 6000 6000 4000 = 500 := ⟨by kernel_rfl, by kernel_rfl⟩
theorem nm_wat2 : watE 990 1000 6000 6100 4000 = 0 ∧ watN 990 1000 6000 6100 4000 = 495 := ⟨by kernel_rfl, by kernel_rfl⟩

set_option maxRecDepth 100000 in
set_option maxHeartbeats 4000000 in
theorem names_any (w : World) : Calls Try.prog 13 #[] w fun e w' => e = .returned (.bool true) ∧ Below w.heap.size w w' := by
  go_enter Try.func13, Try.ntmps13
  go_wp2_with fail
  refine (sample_any w).mono ?_
  rintro e W1 ⟨b, rfl, IN, hb⟩
  have HBc := Lib.hid hb; clear hb
  have H0' := Lib.hid (fun W (hb : Below W1.heap.size W1 W) => Shown_any (sampT b) 5000 5000 200 200 W (IN.below hb) (samp_fits b))
  simp only [(sh0 b).1, (sh0 b).2.1, (sh0 b).2.2] at H0'
  have H1' := Lib.hid (fun W (hb : Below W1.heap.size W1 W) => Shown_any (sampT b) 4000 4000 250 250 W (IN.below hb) (samp_fits b))
  simp only [(sh1 b).1, (sh1 b).2.1, (sh1 b).2.2] at H1'
  have H2' := Lib.hid (fun W (hb : Below W1.heap.size W1 W) => Shown_any (sampT b) 4000 5000 200 300 W (IN.below hb) (samp_fits b))
  simp only [(sh2 b).1, (sh2 b).2.1, (sh2 b).2.2] at H2'
  have D' := Lib.hid (fun W (hb : Below W1.heap.size W1 W) => Strength_any (sampT b) 4220 4220 250 250 W (IN.below hb) (samp_fits b))
  simp only [sp_strE, sp_strL, sp_strH] at D'
  have G' := Lib.hid (fun W (hb : Below W1.heap.size W1 W) => Strength_any (sampT b) 11000 11000 200 200 W (IN.below hb) (samp_fits b))
  simp only [sq_strE, (sq_str b).1, (sq_str b).2] at G'
  have P' := Lib.hid (fun W (hb : Below W1.heap.size W1 W) => Pure_any 1000 1001 4000 4001 W)
  simp only [nm_pure.1, nm_pure.2.1, nm_pure.2.2] at P'
  have X' := Lib.hid (fun W (hb : Below W1.heap.size W1 W) => Water_any 1000 1000 6000 6000 4000 W)
  simp only [nm_wat1.1, nm_wat1.2] at X'
  have Y' := Lib.hid (fun W (hb : Below W1.heap.size W1 W) => Water_any 990 1000 6000 6100 4000 W)
  simp only [nm_wat2.1, nm_wat2.2] at Y'
  unfold Tab.val sampT sRows at H0' H1' H2' D' G' ⊢
  dsimp only at H0' H1' H2' D' G' ⊢
  clear IN
  go_upto_region 2 with (fail)
  obtain ⟨W2, hW2⟩ : ∃ W2, ((W1)).alloc (.cells #[.slice (some ⟨b + 1, 0, none⟩) 3 3, .slice (some ⟨b + 1 + 1, 0, none⟩) 3 3, .slice (some ⟨b + 1 + 1 + 1 + 1 + 1 + 1, 0, none⟩) 3 3, .slice (some ⟨b + 1 + 1 + 1 + 1 + 1 + 1 + 1 + 1 + 1 + 1, 0, none⟩) 3 3] 25) = W2 := ⟨_, rfl⟩
  have hbW2 : Below W1.heap.size W1 W2 := by rw [← hW2]; exact (Below.refl _ W1).alloc (by simp [gw_size]) _
  have ztW2 : W2.heap[W1.heap.size]? = some (.cells #[.slice (some ⟨b + 1, 0, none⟩) 3 3, .slice (some ⟨b + 1 + 1, 0, none⟩) 3 3, .slice (some ⟨b + 1 + 1 + 1 + 1 + 1 + 1, 0, none⟩) 3 3, .slice (some ⟨b + 1 + 1 + 1 + 1 + 1 + 1 + 1 + 1 + 1 + 1, 0, none⟩) 3 3] 25 (0, 0)) := by rw [← hW2]; exact alloc_at (by simp [gw_size])
  have ZtW2 := Lib.hid ztW2; clear ztW2
  have HBW2 := Lib.hid (thru hbW2 HBc.out)
  have SBW2 := Lib.hid hbW2; clear hbW2
  have HWW2 := Lib.hid hW2; clear hW2
  rw [HWW2.out]
  have S2 := Lib.hid SBW2.out
  have et0W2 : W2.cell? ⟨W1.heap.size, 0, none⟩ = some (.slice (some ⟨b + 1, 0, none⟩) 3 3) := cell_of_block ZtW2.out 0 (by simp)
  have et1W2 : W2.cell? ⟨W1.heap.size, 1, none⟩ = some (.slice (some ⟨b + 1 + 1, 0, none⟩) 3 3) := cell_of_block ZtW2.out 1 (by simp)
  have et2W2 : W2.cell? ⟨W1.heap.size, 2, none⟩ = some (.slice (some ⟨b + 1 + 1 + 1 + 1 + 1 + 1, 0, none⟩) 3 3) := cell_of_block ZtW2.out 2 (by simp)
  have et3W2 : W2.cell? ⟨W1.heap.size, 3, none⟩ = some (.slice (some ⟨b + 1 + 1 + 1 + 1 + 1 + 1 + 1 + 1 + 1 + 1, 0, none⟩) 3 3) := cell_of_block ZtW2.out 3 (by simp)
  have ltW2 := (Array.getElem?_eq_some_iff.1 ZtW2.out).1
  refine wp_region_box1 [true, true, true, true, true, true, true, false, false, true] 7 8 #[.int .i64 0, .int .i64 0] #[.int .i64 5000, .int .i64 5000] (by kernel_rfl) rfl rfl rfl (by kernel_rfl) rfl (by kernel_rfl) infoSpn rfl rfl (by simp [Value.oneCell']) ?_
  apply Exists.intro
  refine ⟨fun S hS hx => ?_, ?_, ?_⟩
  · obtain ⟨x0, hx0⟩ := hx
    haveI : Nonempty (GrewS W2 S) := ⟨⟨x0, hx0⟩⟩
    simp only [pickM]
    repeat (go_big_quiet_step (first | (go_at_call 33; with_reducible exact Calls.gwS hS (one_any _ _)) | (go_at_call 25; with_reducible exact Calls.gwS hS (H0'.out _ (S2.out.trans ((below_gw W2 _).mono S2.out.size))))))
    exact wpQuiet_nil rfl
  · rfl
  · intro Ba va hBwa hblk hbb
    have HKa := Lib.hid hblk; clear hblk
    have SBva := Lib.hid (hbb)
    have Ztva := Lib.hid ((SBva.out.block _ (Array.getElem?_eq_some_iff.1 ZtW2.out).1).trans ZtW2.out)
    have HBva := Lib.hid (thru SBva.out HBW2.out)
    have Sva := Lib.hid (S2.out.trans (SBva.out.mono S2.out.size))
    clear hbb
    go_upto_region 3 with (fail)
    simp only [Act.put, List.setIfInBounds_toArray, List.set_cons_succ, List.set_cons_zero]
    have et0va : va.cell? ⟨W1.heap.size, 0, none⟩ = some (.slice (some ⟨b + 1, 0, none⟩) 3 3) := cell_of_block Ztva.out 0 (by simp)
    have et1va : va.cell? ⟨W1.heap.size, 1, none⟩ = some (.slice (some ⟨b + 1 + 1, 0, none⟩) 3 3) := cell_of_block Ztva.out 1 (by simp)
    have et2va : va.cell? ⟨W1.heap.size, 2, none⟩ = some (.slice (some ⟨b + 1 + 1 + 1 + 1 + 1 + 1, 0, none⟩) 3 3) := cell_of_block Ztva.out 2 (by simp)
    have et3va : va.cell? ⟨W1.heap.size, 3, none⟩ = some (.slice (some ⟨b + 1 + 1 + 1 + 1 + 1 + 1 + 1 + 1 + 1 + 1, 0, none⟩) 3 3) := cell_of_block Ztva.out 3 (by simp)
    have ltva := (Array.getElem?_eq_some_iff.1 Ztva.out).1
    refine wp_region_box1 [true, true, true, true, true, true, true, false, false, true] 7 8 #[.int .i64 0, .int .i64 0] #[.int .i64 4220, .int .i64 4220] (by kernel_rfl) rfl rfl rfl (by kernel_rfl) rfl (by kernel_rfl) infoSpn rfl rfl (by simp [Value.oneCell']) ?_
    apply Exists.intro
    refine ⟨fun S hS hx => ?_, ?_, ?_⟩
    · obtain ⟨x0, hx0⟩ := hx
      haveI : Nonempty (GrewS va S) := ⟨⟨x0, hx0⟩⟩
      simp only [pickM]
      repeat (go_big_quiet_step (first | (go_at_call 33; with_reducible exact Calls.gwS hS (one_any _ _)) | (go_at_call 25; with_reducible exact Calls.gwS hS (H1'.out _ (Sva.out.trans ((below_gw va _).mono Sva.out.size))))))
      exact wpQuiet_nil rfl
    · rfl
    · intro Bb vb hBwb hblk hbb
      have HKb := Lib.hid hblk; clear hblk
      have SBvb := Lib.hid (hbb)
      have Ztvb := Lib.hid ((SBvb.out.block _ (Array.getElem?_eq_some_iff.1 Ztva.out).1).trans Ztva.out)
      have Zavb := Lib.hid ((SBvb.out.block _ (Array.getElem?_eq_some_iff.1 HKa.out).1).trans HKa.out)
      have HBvb := Lib.hid (thru SBvb.out HBva.out)
      have Svb := Lib.hid (Sva.out.trans (SBvb.out.mono Sva.out.size))
      clear hbb
      go_upto_region 4 with (fail)
      simp only [Act.put, List.setIfInBounds_toArray, List.set_cons_succ, List.set_cons_zero]
      have et0vb : vb.cell? ⟨W1.heap.size, 0, none⟩ = some (.slice (some ⟨b + 1, 0, none⟩) 3 3) := cell_of_block Ztvb.out 0 (by simp)
      have et1vb : vb.cell? ⟨W1.heap.size, 1, none⟩ = some (.slice (some ⟨b + 1 + 1, 0, none⟩) 3 3) := cell_of_block Ztvb.out 1 (by simp)
      have et2vb : vb.cell? ⟨W1.heap.size, 2, none⟩ = some (.slice (some ⟨b + 1 + 1 + 1 + 1 + 1 + 1, 0, none⟩) 3 3) := cell_of_block Ztvb.out 2 (by simp)
      have et3vb : vb.cell? ⟨W1.heap.size, 3, none⟩ = some (.slice (some ⟨b + 1 + 1 + 1 + 1 + 1 + 1 + 1 + 1 + 1 + 1, 0, none⟩) 3 3) := cell_of_block Ztvb.out 3 (by simp)
      have ltvb := (Array.getElem?_eq_some_iff.1 Ztvb.out).1
      go_wp2_with fail
      refine (Calls.grown (H2'.out _ (Svb.out))).mono ?_
      rintro e w1 ⟨rfl, z1, rfl⟩
      go_upto_region 5 with (fail)
      obtain ⟨W3, hW3⟩ : ∃ W3, ((gw vb z1)).alloc (.cells #[.int .i64 4000, .int .i64 5500] 27) = W3 := ⟨_, rfl⟩
      have hbW3 : Below vb.heap.size vb W3 := by rw [← hW3]; exact (below_gw vb z1).alloc (by simp [gw_size]) _
      have ZtW3 := Lib.hid ((hbW3.block _ (Array.getElem?_eq_some_iff.1 Ztvb.out).1).trans Ztvb.out)
      have ZaW3 := Lib.hid ((hbW3.block _ (Array.getElem?_eq_some_iff.1 Zavb.out).1).trans Zavb.out)
      have ZbW3 := Lib.hid ((hbW3.block _ (Array.getElem?_eq_some_iff.1 HKb.out).1).trans HKb.out)
      have zcW3 : W3.heap[vb.heap.size + z1.bs.size]? = some (.cells #[.int .i64 4000, .int .i64 5500] 27 (0, 0)) := by rw [← hW3]; exact alloc_at (by simp [gw_size])
      have ZcW3 := Lib.hid zcW3; clear zcW3
      have HBW3 := Lib.hid (thru hbW3 HBvb.out)
      have SBW3 := Lib.hid hbW3; clear hbW3
      have HWW3 := Lib.hid hW3; clear hW3
      rw [HWW3.out]
      have S3 := Lib.hid (Svb.out.trans (SBW3.out.mono Svb.out.size))
      have et0W3 : W3.cell? ⟨W1.heap.size, 0, none⟩ = some (.slice (some ⟨b + 1, 0, none⟩) 3 3) := cell_of_block ZtW3.out 0 (by simp)
      have et1W3 : W3.cell? ⟨W1.heap.size, 1, none⟩ = some (.slice (some ⟨b + 1 + 1, 0, none⟩) 3 3) := cell_of_block ZtW3.out 1 (by simp)
      have et2W3 : W3.cell? ⟨W1.heap.size, 2, none⟩ = some (.slice (some ⟨b + 1 + 1 + 1 + 1 + 1 + 1, 0, none⟩) 3 3) := cell_of_block ZtW3.out 2 (by simp)
      have et3W3 : W3.cell? ⟨W1.heap.size, 3, none⟩ = some (.slice (some ⟨b + 1 + 1 + 1 + 1 + 1 + 1 + 1 + 1 + 1 + 1, 0, none⟩) 3 3) := cell_of_block ZtW3.out 3 (by simp)
      have ltW3 := (Array.getElem?_eq_some_iff.1 ZtW3.out).1
      refine wp_region_box1 [true, true, true, true, true, true, true, false, false, true] 7 8 #[.int .i64 0, .int .i64 0] #[.int .i64 4000, .int .i64 4000] (by kernel_rfl) rfl rfl rfl (by kernel_rfl) rfl (by kernel_rfl) infoSpn rfl rfl (by simp [Value.oneCell']) ?_
      apply Exists.intro
      refine ⟨fun S hS hx => ?_, ?_, ?_⟩
      · obtain ⟨x0, hx0⟩ := hx
        haveI : Nonempty (GrewS W3 S) := ⟨⟨x0, hx0⟩⟩
        simp only [pickM]
        repeat (go_big_quiet_step (first | (go_at_call 33; with_reducible exact Calls.gwS hS (one_any _ _)) | (go_at_call 16; with_reducible exact Calls.gwS hS (D'.out _ (S3.out.trans ((below_gw W3 _).mono S3.out.size))))))
        exact wpQuiet_nil rfl
      · rfl
      · intro Bd vd hBwd hblk hbb
        have HKd := Lib.hid hblk; clear hblk
        have SBvd := Lib.hid (hbb)
        have Ztvd := Lib.hid ((SBvd.out.block _ (Array.getElem?_eq_some_iff.1 ZtW3.out).1).trans ZtW3.out)
        have Zavd := Lib.hid ((SBvd.out.block _ (Array.getElem?_eq_some_iff.1 ZaW3.out).1).trans ZaW3.out)
        have Zbvd := Lib.hid ((SBvd.out.block _ (Array.getElem?_eq_some_iff.1 ZbW3.out).1).trans ZbW3.out)
        have Zcvd := Lib.hid ((SBvd.out.block _ (Array.getElem?_eq_some_iff.1 ZcW3.out).1).trans ZcW3.out)
        have HBvd := Lib.hid (thru SBvd.out HBW3.out)
        have Svd := Lib.hid (S3.out.trans (SBvd.out.mono S3.out.size))
        clear hbb
        go_upto_region 6 with (fail)
        simp only [Act.put, List.setIfInBounds_toArray, List.set_cons_succ, List.set_cons_zero]
        have et0vd : vd.cell? ⟨W1.heap.size, 0, none⟩ = some (.slice (some ⟨b + 1, 0, none⟩) 3 3) := cell_of_block Ztvd.out 0 (by simp)
        have et1vd : vd.cell? ⟨W1.heap.size, 1, none⟩ = some (.slice (some ⟨b + 1 + 1, 0, none⟩) 3 3) := cell_of_block Ztvd.out 1 (by simp)
        have et2vd : vd.cell? ⟨W1.heap.size, 2, none⟩ = some (.slice (some ⟨b + 1 + 1 + 1 + 1 + 1 + 1, 0, none⟩) 3 3) := cell_of_block Ztvd.out 2 (by simp)
        have et3vd : vd.cell? ⟨W1.heap.size, 3, none⟩ = some (.slice (some ⟨b + 1 + 1 + 1 + 1 + 1 + 1 + 1 + 1 + 1 + 1, 0, none⟩) 3 3) := cell_of_block Ztvd.out 3 (by simp)
        have ltvd := (Array.getElem?_eq_some_iff.1 Ztvd.out).1
        refine wp_region_box1 [true, true, true, true, true, true, true, false, false, true] 7 8 #[.int .i64 0, .int .i64 0] #[.int .i64 0, .int .i64 0] (by kernel_rfl) rfl rfl rfl (by kernel_rfl) rfl (by kernel_rfl) infoSpn rfl rfl (by simp [Value.oneCell']) ?_
        apply Exists.intro
        refine ⟨fun S hS hx => ?_, ?_, ?_⟩
        · obtain ⟨x0, hx0⟩ := hx
          haveI : Nonempty (GrewS vd S) := ⟨⟨x0, hx0⟩⟩
          simp only [pickM]
          repeat (go_big_quiet_step (first | (go_at_call 33; with_reducible exact Calls.gwS hS (one_any _ _)) | (go_at_call 16; with_reducible exact Calls.gwS hS (G'.out _ (Svd.out.trans ((below_gw vd _).mono Svd.out.size))))))
          exact wpQuiet_nil rfl
        · rfl
        · intro Be ve hBwe hblk hbb
          have HKe := Lib.hid hblk; clear hblk
          have SBve := Lib.hid (hbb)
          have Ztve := Lib.hid ((SBve.out.block _ (Array.getElem?_eq_some_iff.1 Ztvd.out).1).trans Ztvd.out)
          have Zave := Lib.hid ((SBve.out.block _ (Array.getElem?_eq_some_iff.1 Zavd.out).1).trans Zavd.out)
          have Zbve := Lib.hid ((SBve.out.block _ (Array.getElem?_eq_some_iff.1 Zbvd.out).1).trans Zbvd.out)
          have Zcve := Lib.hid ((SBve.out.block _ (Array.getElem?_eq_some_iff.1 Zcvd.out).1).trans Zcvd.out)
          have Zdve := Lib.hid ((SBve.out.block _ (Array.getElem?_eq_some_iff.1 HKd.out).1).trans HKd.out)
          have HBve := Lib.hid (thru SBve.out HBvd.out)
          have Sve := Lib.hid (Svd.out.trans (SBve.out.mono Svd.out.size))
          clear hbb
          go_upto_region 7 with (fail)
          simp only [Act.put, List.setIfInBounds_toArray, List.set_cons_succ, List.set_cons_zero]
          go_wp2_with fail
          refine (Calls.grown (P'.out _ (Sve.out))).mono ?_
          rintro e w1 ⟨rfl, z2, rfl⟩
          go_upto_region 8 with (fail)
          obtain ⟨W4, hW4⟩ : ∃ W4, ((gw ve z2)).alloc (.cells #[.int .i64 400, .int .i64 401] 27) = W4 := ⟨_, rfl⟩
          have hbW4 : Below ve.heap.size ve W4 := by rw [← hW4]; exact (below_gw ve z2).alloc (by simp [gw_size]) _
          have ZtW4 := Lib.hid ((hbW4.block _ (Array.getElem?_eq_some_iff.1 Ztve.out).1).trans Ztve.out)
          have ZaW4 := Lib.hid ((hbW4.block _ (Array.getElem?_eq_some_iff.1 Zave.out).1).trans Zave.out)
          have ZbW4 := Lib.hid ((hbW4.block _ (Array.getElem?_eq_some_iff.1 Zbve.out).1).trans Zbve.out)
          have ZcW4 := Lib.hid ((hbW4.block _ (Array.getElem?_eq_some_iff.1 Zcve.out).1).trans Zcve.out)
          have ZdW4 := Lib.hid ((hbW4.block _ (Array.getElem?_eq_some_iff.1 Zdve.out).1).trans Zdve.out)
          have ZeW4 := Lib.hid ((hbW4.block _ (Array.getElem?_eq_some_iff.1 HKe.out).1).trans HKe.out)
          have zfW4 : W4.heap[ve.heap.size + z2.bs.size]? = some (.cells #[.int .i64 400, .int .i64 401] 27 (0, 0)) := by rw [← hW4]; exact alloc_at (by simp [gw_size])
          have ZfW4 := Lib.hid zfW4; clear zfW4
          have HBW4 := Lib.hid (thru hbW4 HBve.out)
          have SBW4 := Lib.hid hbW4; clear hbW4
          have HWW4 := Lib.hid hW4; clear hW4
          rw [HWW4.out]
          have S4 := Lib.hid (Sve.out.trans (SBW4.out.mono Sve.out.size))
          go_wp2_with fail
          refine (Calls.grown (one_any _ _)).mono ?_
          rintro e w1 ⟨rfl, z3, rfl⟩
          go_wp2_with fail
          refine (Calls.gw_of (one_any _ _)).mono ?_
          rintro e w1 ⟨rfl, z4, rfl⟩
          go_wp2_with fail
          refine (Calls.gw_of (one_any _ _)).mono ?_
          rintro e w1 ⟨rfl, z5, rfl⟩
          go_wp2_with fail
          refine (Calls.gw_of (one_any _ _)).mono ?_
          rintro e w1 ⟨rfl, z6, rfl⟩
          go_wp2_with fail
          obtain ⟨W5, hW5⟩ : ∃ W5, ((gw W4 z6)).alloc (.cells #[.int .i64 1000, .int .i64 1000, .int .i64 6000, .int .i64 6000, .int .i64 1000, .int .i64 1000, .int .i64 4000, .int .i64 4000] 43) = W5 := ⟨_, rfl⟩
          have hbW5 : Below W4.heap.size W4 W5 := by rw [← hW5]; exact (below_gw W4 z6).alloc (by simp [gw_size]) _
          have ZtW5 := Lib.hid ((hbW5.block _ (Array.getElem?_eq_some_iff.1 ZtW4.out).1).trans ZtW4.out)
          have ZaW5 := Lib.hid ((hbW5.block _ (Array.getElem?_eq_some_iff.1 ZaW4.out).1).trans ZaW4.out)
          have ZbW5 := Lib.hid ((hbW5.block _ (Array.getElem?_eq_some_iff.1 ZbW4.out).1).trans ZbW4.out)
          have ZcW5 := Lib.hid ((hbW5.block _ (Array.getElem?_eq_some_iff.1 ZcW4.out).1).trans ZcW4.out)
          have ZdW5 := Lib.hid ((hbW5.block _ (Array.getElem?_eq_some_iff.1 ZdW4.out).1).trans ZdW4.out)
          have ZeW5 := Lib.hid ((hbW5.block _ (Array.getElem?_eq_some_iff.1 ZeW4.out).1).trans ZeW4.out)
          have ZfW5 := Lib.hid ((hbW5.block _ (Array.getElem?_eq_some_iff.1 ZfW4.out).1).trans ZfW4.out)
          have zpW5 : W5.heap[W4.heap.size + z6.bs.size]? = some (.cells #[.int .i64 1000, .int .i64 1000, .int .i64 6000, .int .i64 6000, .int .i64 1000, .int .i64 1000, .int .i64 4000, .int .i64 4000] 43 (0, 0)) := by rw [← hW5]; exact alloc_at (by simp [gw_size])
          have ZpW5 := Lib.hid zpW5; clear zpW5
          have HBW5 := Lib.hid (thru hbW5 HBW4.out)
          have SBW5 := Lib.hid hbW5; clear hbW5
          have HWW5 := Lib.hid hW5; clear hW5
          rw [HWW5.out]
          have S5 := Lib.hid (S4.out.trans (SBW5.out.mono S4.out.size))
          have MX := Mix_any _ 2 2 sampP 0 W5 (by omega) (samp_parts ZpW5.out)
          rw [nm_mixE, nm_mixV] at MX
          dsimp only at MX
          have MX' := Lib.hid MX; clear MX
          refine (Calls.grown (MX'.out)).mono ?_
          rintro e w1 ⟨rfl, z7, rfl⟩
          go_upto_region 9 with (fail)
          obtain ⟨W6, hW6⟩ : ∃ W6, ((gw W5 z7)).alloc (.cells #[.int .i64 2000, .int .i64 2000, .int .i64 5000, .int .i64 5000] 43) = W6 := ⟨_, rfl⟩
          have hbW6 : Below W5.heap.size W5 W6 := by rw [← hW6]; exact (below_gw W5 z7).alloc (by simp [gw_size]) _
          have ZtW6 := Lib.hid ((hbW6.block _ (Array.getElem?_eq_some_iff.1 ZtW5.out).1).trans ZtW5.out)
          have ZaW6 := Lib.hid ((hbW6.block _ (Array.getElem?_eq_some_iff.1 ZaW5.out).1).trans ZaW5.out)
          have ZbW6 := Lib.hid ((hbW6.block _ (Array.getElem?_eq_some_iff.1 ZbW5.out).1).trans ZbW5.out)
          have ZcW6 := Lib.hid ((hbW6.block _ (Array.getElem?_eq_some_iff.1 ZcW5.out).1).trans ZcW5.out)
          have ZdW6 := Lib.hid ((hbW6.block _ (Array.getElem?_eq_some_iff.1 ZdW5.out).1).trans ZdW5.out)
          have ZeW6 := Lib.hid ((hbW6.block _ (Array.getElem?_eq_some_iff.1 ZeW5.out).1).trans ZeW5.out)
          have ZfW6 := Lib.hid ((hbW6.block _ (Array.getElem?_eq_some_iff.1 ZfW5.out).1).trans ZfW5.out)
          have ZpW6 := Lib.hid ((hbW6.block _ (Array.getElem?_eq_some_iff.1 ZpW5.out).1).trans ZpW5.out)
          have zgW6 : W6.heap[W5.heap.size + z7.bs.size]? = some (.cells #[.int .i64 2000, .int .i64 2000, .int .i64 5000, .int .i64 5000] 43 (0, 0)) := by rw [← hW6]; exact alloc_at (by simp [gw_size])
          have ZgW6 := Lib.hid zgW6; clear zgW6
          have HBW6 := Lib.hid (thru hbW6 HBW5.out)
          have SBW6 := Lib.hid hbW6; clear hbW6
          have HWW6 := Lib.hid hW6; clear hW6
          rw [HWW6.out]
          have S6 := Lib.hid (S5.out.trans (SBW6.out.mono S5.out.size))
          go_wp2_with fail
          refine (Calls.grown (one_any _ _)).mono ?_
          rintro e w1 ⟨rfl, z8, rfl⟩
          go_wp2_with fail
          refine (Calls.gw_of (one_any _ _)).mono ?_
          rintro e w1 ⟨rfl, z9, rfl⟩
          go_wp2_with fail
          refine (Calls.gw_of (X'.out _ (S6.out.trans ((below_gw W6 z9).mono S6.out.size)))).mono ?_
          rintro e w1 ⟨rfl, z10, rfl⟩
          go_wp2_with fail
          refine (Calls.gw_of (Y'.out _ (S6.out.trans ((below_gw W6 z10).mono S6.out.size)))).mono ?_
          rintro e w1 ⟨rfl, z11, rfl⟩
          go_upto_region 11 with (fail)
          obtain ⟨W7, hW7⟩ : ∃ W7, gw W6 z11 = W7 := ⟨_, rfl⟩
          have hbW7 : Below W6.heap.size W6 W7 := by rw [← hW7]; exact below_gw W6 z11
          have ZtW7 := Lib.hid ((hbW7.block _ (Array.getElem?_eq_some_iff.1 ZtW6.out).1).trans ZtW6.out)
          have ZaW7 := Lib.hid ((hbW7.block _ (Array.getElem?_eq_some_iff.1 ZaW6.out).1).trans ZaW6.out)
          have ZbW7 := Lib.hid ((hbW7.block _ (Array.getElem?_eq_some_iff.1 ZbW6.out).1).trans ZbW6.out)
          have ZcW7 := Lib.hid ((hbW7.block _ (Array.getElem?_eq_some_iff.1 ZcW6.out).1).trans ZcW6.out)
          have ZdW7 := Lib.hid ((hbW7.block _ (Array.getElem?_eq_some_iff.1 ZdW6.out).1).trans ZdW6.out)
          have ZeW7 := Lib.hid ((hbW7.block _ (Array.getElem?_eq_some_iff.1 ZeW6.out).1).trans ZeW6.out)
          have ZfW7 := Lib.hid ((hbW7.block _ (Array.getElem?_eq_some_iff.1 ZfW6.out).1).trans ZfW6.out)
          have ZpW7 := Lib.hid ((hbW7.block _ (Array.getElem?_eq_some_iff.1 ZpW6.out).1).trans ZpW6.out)
          have ZgW7 := Lib.hid ((hbW7.block _ (Array.getElem?_eq_some_iff.1 ZgW6.out).1).trans ZgW6.out)
          have HBW7 := Lib.hid (thru hbW7 HBW6.out)
          have SBW7 := Lib.hid hbW7; clear hbW7
          have HWW7 := Lib.hid hW7; clear hW7
          rw [HWW7.out]
          have S7 := Lib.hid (S6.out.trans (SBW7.out.mono S6.out.size))
          have ea0W7 : W7.cell? ⟨Ba, 0, none⟩ = some (.int .i64 5000) := cell_of_block ZaW7.out 0 (by simp)
          have ea1W7 : W7.cell? ⟨Ba, 1, none⟩ = some (.int .i64 5000) := cell_of_block ZaW7.out 1 (by simp)
          have laW7 := (Array.getElem?_eq_some_iff.1 ZaW7.out).1
          have eb0W7 : W7.cell? ⟨Bb, 0, none⟩ = some (.int .i64 4220) := cell_of_block ZbW7.out 0 (by simp)
          have eb1W7 : W7.cell? ⟨Bb, 1, none⟩ = some (.int .i64 4220) := cell_of_block ZbW7.out 1 (by simp)
          have lbW7 := (Array.getElem?_eq_some_iff.1 ZbW7.out).1
          have ec0W7 : W7.cell? ⟨vb.heap.size + z1.bs.size, 0, none⟩ = some (.int .i64 4000) := cell_of_block ZcW7.out 0 (by simp)
          have ec1W7 : W7.cell? ⟨vb.heap.size + z1.bs.size, 1, none⟩ = some (.int .i64 5500) := cell_of_block ZcW7.out 1 (by simp)
          have lcW7 := (Array.getElem?_eq_some_iff.1 ZcW7.out).1
          have ed0W7 : W7.cell? ⟨Bd, 0, none⟩ = some (.int .i64 4000) := cell_of_block ZdW7.out 0 (by simp)
          have ed1W7 : W7.cell? ⟨Bd, 1, none⟩ = some (.int .i64 4000) := cell_of_block ZdW7.out 1 (by simp)
          have ldW7 := (Array.getElem?_eq_some_iff.1 ZdW7.out).1
          have ef0W7 : W7.cell? ⟨ve.heap.size + z2.bs.size, 0, none⟩ = some (.int .i64 400) := cell_of_block ZfW7.out 0 (by simp)
          have ef1W7 : W7.cell? ⟨ve.heap.size + z2.bs.size, 1, none⟩ = some (.int .i64 401) := cell_of_block ZfW7.out 1 (by simp)
          have lfW7 := (Array.getElem?_eq_some_iff.1 ZfW7.out).1
          have eg0W7 : W7.cell? ⟨W5.heap.size + z7.bs.size, 0, none⟩ = some (.int .i64 2000) := cell_of_block ZgW7.out 0 (by simp)
          have eg1W7 : W7.cell? ⟨W5.heap.size + z7.bs.size, 1, none⟩ = some (.int .i64 2000) := cell_of_block ZgW7.out 1 (by simp)
          have eg2W7 : W7.cell? ⟨W5.heap.size + z7.bs.size, 2, none⟩ = some (.int .i64 5000) := cell_of_block ZgW7.out 2 (by simp)
          have eg3W7 : W7.cell? ⟨W5.heap.size + z7.bs.size, 3, none⟩ = some (.int .i64 5000) := cell_of_block ZgW7.out 3 (by simp)
          have lgW7 := (Array.getElem?_eq_some_iff.1 ZgW7.out).1
          refine wp_region_gw (by kernel_rfl) (by kernel_rfl) ?_
          repeat (go_big_quiet_step ((go_at_call 33; with_reducible exact Calls.gw_of (one_any _ _))))
          refine wpQuiet_nil ?_
          rintro _ ⟨z8, rfl⟩
          go_upto_region 12 with (fail)
          refine wp_region_gw2 (by kernel_rfl) (by kernel_rfl) ?_
          repeat (go_big_quiet_step (first | (go_at_call 33; with_reducible exact Calls.gw_of (one_any _ _)) | (go_at_call 15; with_reducible exact Calls.gw_of (alive_any _))))
          refine wpQuiet_nil ?_
          rintro _ ⟨z9, rfl⟩
          go_wp2_with fail
          go_ret
          exact ⟨rfl, HBW7.out.gw z9⟩
end Go.Proofs.Ytohcopdfdmjhnaa.L1
