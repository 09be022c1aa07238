/- Contracts of Valid and Mash of the reference. No conditions beyond each theorem's own. -/
import Derived.Test.YtecbacbecopbeaaBe
set_option linter.unusedVariables false
set_option linter.unusedSimpArgs false
set_option linter.unusedSectionVars false
set_option linter.constructorNameAsVariable false
namespace Go.Proofs.Ytecbacbecopbeaa
open Go.RowKit

attribute [local go_sem] gw_cell gw_frozen gw_size

theorem infoSpn : (Try.prog.info? 23).map (fun i => (i.zero, i.size)) = some (some (.agg #[.int .i64 0, .int .i64 0]), 2) := by kernel_rfl

set_option maxRecDepth 100000 in
set_option maxHeartbeats 4000000 in
theorem Valid_any (m : Msh) (w : World) : Calls Try.prog 29 #[m.val] w fun e w' => e = .returned (.bool (mashB m)) ∧ Below w.heap.size w w' := by
  unfold Msh.val
  obtain ⟨W1, hW1⟩ : ∃ W1, w.alloc (.cells #[.int .i64 m.g, .int .i64 m.w, .int .i64 m.xl, .int .i64 m.xh, .int .i64 m.hl, .int .i64 m.hh] 25) = W1 := ⟨_, rfl⟩
  have hBc : Below w.heap.size w W1 := by rw [← hW1]; exact below_alloc _ _
  have zc0 : W1.heap[w.heap.size]? = some (.cells #[.int .i64 m.g, .int .i64 m.w, .int .i64 m.xl, .int .i64 m.xh, .int .i64 m.hl, .int .i64 m.hh] 25 (0, 0)) := by rw [← hW1]; exact alloc_at rfl
  have c00 : W1.cell? ⟨w.heap.size, 0, none⟩ = some (.int .i64 m.g) := cell_of_block zc0 0 (by simp)
  have c01 : W1.cell? ⟨w.heap.size, 1, none⟩ = some (.int .i64 m.w) := cell_of_block zc0 1 (by simp)
  have c02 : W1.cell? ⟨w.heap.size, 2, none⟩ = some (.int .i64 m.xl) := cell_of_block zc0 2 (by simp)
  have c03 : W1.cell? ⟨w.heap.size, 3, none⟩ = some (.int .i64 m.xh) := cell_of_block zc0 3 (by simp)
  have c04 : W1.cell? ⟨w.heap.size, 4, none⟩ = some (.int .i64 m.hl) := cell_of_block zc0 4 (by simp)
  have c05 : W1.cell? ⟨w.heap.size, 5, none⟩ = some (.int .i64 m.hh) := cell_of_block zc0 5 (by simp)
  have lc0 := (Array.getElem?_eq_some_iff.1 zc0).1
  clear zc0
  have HBc := Lib.hid hBc; clear hBc
  have HWc := Lib.hid hW1; clear hW1
  cases t0 : inB m.g 1 16777216 with
  | false =>
    have E := Lib.hid (show mashB m = false by unfold mashB; simp [t0])
    rw [E.out]
    have T0 := Lib.hid t0; clear t0
    go_enter Try.func29, Try.ntmps29
    go_upto_region 1 with (fail)
    rw [HWc.out]
    go_wp2_with fail
    refine (rin_b m.g 1 16777216 _ T0.out).mono ?_
    rintro e w1 ⟨rfl, rfl⟩
    go_wp2_with fail
    go_ret
    exact ⟨rfl, HBc.out⟩
  | true =>
    cases t1 : inB m.w 1 16777216 with
    | false =>
      have E := Lib.hid (show mashB m = false by unfold mashB; simp [t0, t1])
      rw [E.out]
      have T0 := Lib.hid t0; clear t0
      have T1 := Lib.hid t1; clear t1
      go_enter Try.func29, Try.ntmps29
      go_upto_region 1 with (fail)
      rw [HWc.out]
      go_wp2_with fail
      refine (rin_b m.g 1 16777216 _ T0.out).mono ?_
      rintro e w1 ⟨rfl, rfl⟩
      go_wp2_with fail
      refine (rin_b m.w 1 16777216 _ T1.out).mono ?_
      rintro e w1 ⟨rfl, rfl⟩
      go_wp2_with fail
      go_ret
      exact ⟨rfl, HBc.out⟩
    | true =>
      cases t2 : spanB m.xl m.xh 0 1000 with
      | false =>
        have E := Lib.hid (show mashB m = false by unfold mashB; simp [t0, t1, t2])
        rw [E.out]
        have T0 := Lib.hid t0; clear t0
        have T1 := Lib.hid t1; clear t1
        have T2 := Lib.hid t2; clear t2
        go_enter Try.func29, Try.ntmps29
        go_upto_region 1 with (fail)
        rw [HWc.out]
        go_wp2_with fail
        refine (rin_b m.g 1 16777216 _ T0.out).mono ?_
        rintro e w1 ⟨rfl, rfl⟩
        go_wp2_with fail
        refine (rin_b m.w 1 16777216 _ T1.out).mono ?_
        rintro e w1 ⟨rfl, rfl⟩
        go_wp2_with fail
        refine (Calls.grown (rwithin_b m.xl m.xh 0 1000 _ T2.out)).mono ?_
        rintro e w1 ⟨rfl, z1, rfl⟩
        go_wp2_with fail
        go_ret
        exact ⟨rfl, HBc.out.gw z1⟩
      | true =>
        cases t3 : spanB m.hl m.hh 0 10000 with
        | false =>
          have E := Lib.hid (show mashB m = false by unfold mashB; simp [t0, t1, t2, t3])
          rw [E.out]
          have T0 := Lib.hid t0; clear t0
          have T1 := Lib.hid t1; clear t1
          have T2 := Lib.hid t2; clear t2
          have T3 := Lib.hid t3; clear t3
          go_enter Try.func29, Try.ntmps29
          go_upto_region 1 with (fail)
          rw [HWc.out]
          go_wp2_with fail
          refine (rin_b m.g 1 16777216 _ T0.out).mono ?_
          rintro e w1 ⟨rfl, rfl⟩
          go_wp2_with fail
          refine (rin_b m.w 1 16777216 _ T1.out).mono ?_
          rintro e w1 ⟨rfl, rfl⟩
          go_wp2_with fail
          refine (Calls.grown (rwithin_b m.xl m.xh 0 1000 _ T2.out)).mono ?_
          rintro e w1 ⟨rfl, z1, rfl⟩
          go_wp2_with fail
          refine (Calls.gw_of (rwithin_b m.hl m.hh 0 10000 _ T3.out)).mono ?_
          rintro e w1 ⟨rfl, z2, rfl⟩
          go_wp2_with fail
          go_ret
          exact ⟨rfl, HBc.out.gw z2⟩
        | true =>
          have E := Lib.hid (show mashB m = true by unfold mashB; simp [t0, t1, t2, t3])
          rw [E.out]
          have T0 := Lib.hid t0; clear t0
          have T1 := Lib.hid t1; clear t1
          have T2 := Lib.hid t2; clear t2
          have T3 := Lib.hid t3; clear t3
          go_enter Try.func29, Try.ntmps29
          go_upto_region 1 with (fail)
          rw [HWc.out]
          go_wp2_with fail
          refine (rin_b m.g 1 16777216 _ T0.out).mono ?_
          rintro e w1 ⟨rfl, rfl⟩
          go_wp2_with fail
          refine (rin_b m.w 1 16777216 _ T1.out).mono ?_
          rintro e w1 ⟨rfl, rfl⟩
          go_wp2_with fail
          refine (Calls.grown (rwithin_b m.xl m.xh 0 1000 _ T2.out)).mono ?_
          rintro e w1 ⟨rfl, z1, rfl⟩
          go_wp2_with fail
          refine (Calls.gw_of (rwithin_b m.hl m.hh 0 10000 _ T3.out)).mono ?_
          rintro e w1 ⟨rfl, z2, rfl⟩
          go_wp2_with fail
          go_ret
          exact ⟨rfl, HBc.out.gw z2⟩
theorem Valid_b {b : Bool} (m : Msh) (w : World) (h : mashB m = b) : Calls Try.prog 29 #[m.val] w fun e w' => e = .returned (.bool b) ∧ Below w.heap.size w w' := h ▸ Valid_any m w

set_option maxRecDepth 100000 in
set_option maxHeartbeats 16000000 in
theorem rMash_any (m : Msh) (w : World) : Calls Try.prog 17 #[m.val] w fun e w' => e = .returned ((mashO m).val (mashE m)) ∧ Below w.heap.size w w' := by
  have VA := fun b (h : mashB m = b) w => Valid_b m w h
  unfold Msh.val at VA
  unfold Msh.val MOut.val
  obtain ⟨W1, hW1⟩ : ∃ W1, ((w.alloc (.cells #[.int .i64 m.g, .int .i64 m.w, .int .i64 m.xl, .int .i64 m.xh, .int .i64 m.hl, .int .i64 m.hh] 25)).alloc (.cells #[.int .i64 0, .int .i64 0, .int .i64 0, .int .i64 0] 27)).alloc (.cells #[.int .i64 0, .int .i64 0] 23) = W1 := ⟨_, rfl⟩
  have hBc : Below w.heap.size w W1 := by rw [← hW1]; exact ((below_alloc _ _).alloc (by simp) _).alloc (by simp <;> omega) _
  have zc0 : W1.heap[w.heap.size]? = some (.cells #[.int .i64 m.g, .int .i64 m.w, .int .i64 m.xl, .int .i64 m.xh, .int .i64 m.hl, .int .i64 m.hh] 25 (0, 0)) := by rw [← hW1]; exact alloc_keep (alloc_keep (alloc_at rfl))
  have zc1 : W1.heap[w.heap.size + 1]? = some (.cells #[.int .i64 0, .int .i64 0, .int .i64 0, .int .i64 0] 27 (0, 0)) := by rw [← hW1]; exact alloc_keep (alloc_at (by simp))
  have zc2 : W1.heap[w.heap.size + 1 + 1]? = some (.cells #[.int .i64 0, .int .i64 0] 23 (0, 0)) := by rw [← hW1]; exact alloc_at (by simp <;> omega)
  have c00 : W1.cell? ⟨w.heap.size, 0, none⟩ = some (.int .i64 m.g) := cell_of_block zc0 0 (by simp)
  have c01 : W1.cell? ⟨w.heap.size, 1, none⟩ = some (.int .i64 m.w) := cell_of_block zc0 1 (by simp)
  have c02 : W1.cell? ⟨w.heap.size, 2, none⟩ = some (.int .i64 m.xl) := cell_of_block zc0 2 (by simp)
  have c03 : W1.cell? ⟨w.heap.size, 3, none⟩ = some (.int .i64 m.xh) := cell_of_block zc0 3 (by simp)
  have c04 : W1.cell? ⟨w.heap.size, 4, none⟩ = some (.int .i64 m.hl) := cell_of_block zc0 4 (by simp)
  have c05 : W1.cell? ⟨w.heap.size, 5, none⟩ = some (.int .i64 m.hh) := cell_of_block zc0 5 (by simp)
  have c10 : W1.cell? ⟨w.heap.size + 1, 0, none⟩ = some (.int .i64 0) := cell_of_block zc1 0 (by simp)
  have c11 : W1.cell? ⟨w.heap.size + 1, 1, none⟩ = some (.int .i64 0) := cell_of_block zc1 1 (by simp)
  have c12 : W1.cell? ⟨w.heap.size + 1, 2, none⟩ = some (.int .i64 0) := cell_of_block zc1 2 (by simp)
  have c13 : W1.cell? ⟨w.heap.size + 1, 3, none⟩ = some (.int .i64 0) := cell_of_block zc1 3 (by simp)
  have c20 : W1.cell? ⟨w.heap.size + 1 + 1, 0, none⟩ = some (.int .i64 0) := cell_of_block zc2 0 (by simp)
  have c21 : W1.cell? ⟨w.heap.size + 1 + 1, 1, none⟩ = some (.int .i64 0) := cell_of_block zc2 1 (by simp)
  have lc0 := (Array.getElem?_eq_some_iff.1 zc0).1
  have lc1 := (Array.getElem?_eq_some_iff.1 zc1).1
  have lc2 := (Array.getElem?_eq_some_iff.1 zc2).1
  have fc10 := frozen_of_block zc1 0
  have fc11 := frozen_of_block zc1 1
  have fc12 := frozen_of_block zc1 2
  have fc13 := frozen_of_block zc1 3
  have fc20 := frozen_of_block zc2 0
  have fc21 := frozen_of_block zc2 1
  have Zc0 := Lib.hid zc0
  have Zc1 := Lib.hid zc1
  have Zc2 := Lib.hid zc2
  clear zc0 zc1 zc2
  have HBc := Lib.hid hBc; clear hBc
  have HWc := Lib.hid hW1; clear hW1
  cases hm : mashB m with
  | false =>
    obtain ⟨e1, e2⟩ := mash_bad hm
    rw [e1, e2]
    have VX := Lib.hid (VA _ hm); clear VA hm e1 e2
    go_enter Try.func17, Try.ntmps17
    go_upto_region 1 with (fail)
    rw [HWc.out]
    go_wp2_with fail
    refine (Calls.grown (VX.out _)).mono ?_
    rintro e w1 ⟨rfl, z1, rfl⟩
    go_wp2_with fail
    have LB := Lib.hid (HBc.out.gw z1)
    refine bodyPost_ret (v := .tuple #[.agg #[.int .i64 0, .int .i64 0, .int .i64 0, .int .i64 0], .agg #[.int .i64 0, .int .i64 0], .int .i64 1]) (by simp [results, Try.results17, go_sem, *]) rfl ⟨rfl, ?_⟩
    exact setAll_below (setAll_below LB.out LB.out.size (by omega) [.int .i64 0, .int .i64 0, .int .i64 0, .int .i64 0] 0) (Nat.le_trans LB.out.size (setAll_grown _ _ 0 _).size) (by omega) [.int .i64 0, .int .i64 0] 0
  | true =>
    obtain ⟨⟨p0, p1⟩, ⟨p2, p3⟩, k0, k1, k2⟩ := mash_held hm
    obtain ⟨⟨s0, s1⟩, s2, s3⟩ := mash_sugar hm
    obtain ⟨⟨g0, g1⟩, ⟨w0, w1⟩, -, -⟩ := mashB_t hm
    have VX := Lib.hid (VA _ hm); clear VA
    have C1 := fun w => rceil_any (m.g * m.hh) 1000 w (by omega) (by omega) (by omega)
    have C2 := fun w => rfloor_any (m.g * m.hl) 1000 w (by omega) (by omega) (by omega)
    rw [show upI (m.g * m.hh) 1000 = m.kh from rfl] at C1
    rw [show m.g * m.hl / 1000 = m.kl from rfl] at C2
    have D1 := Lib.hid C1; have D2 := Lib.hid C2; clear C1 C2
    have KS := Lib.hid (@mash_short m hm)
    have KO := Lib.hid (@mash_ok m hm)
    clear hm
    generalize m.kl = kl at *
    generalize m.kh = kh at *
    by_cases hs : m.w - kh < 1
    · obtain ⟨e1, e2⟩ := KS.out hs
      rw [e1, e2]
      clear e1 e2 KS KO
      go_enter Try.func17, Try.ntmps17
      go_upto_region 1 with (fail)
      rw [HWc.out]
      go_wp2_with fail
      refine (Calls.grown (VX.out _)).mono ?_
      rintro e w1 ⟨rfl, z1, rfl⟩
      go_upto_region 3 with (fail)
      obtain ⟨W2, hW2⟩ : ∃ W2, gw W1 z1 = W2 := ⟨_, rfl⟩
      have hbW2 : Below W1.heap.size W1 W2 := by rw [← hW2]; exact below_gw W1 z1
      have ZmW2 := Lib.hid ((hbW2.block _ (Array.getElem?_eq_some_iff.1 Zc0.out).1).trans Zc0.out)
      have ZaW2 := Lib.hid ((hbW2.block _ (Array.getElem?_eq_some_iff.1 Zc1.out).1).trans Zc1.out)
      have ZbW2 := Lib.hid ((hbW2.block _ (Array.getElem?_eq_some_iff.1 Zc2.out).1).trans Zc2.out)
      have HBW2 := Lib.hid (thru hbW2 HBc.out)
      have SBW2 := Lib.hid hbW2; clear hbW2
      have HWW2 := Lib.hid hW2; clear hW2
      rw [HWW2.out]
      clear c00 c01 c02 c03 c04 c05 c10 c11 c12 c13 c20 c21 fc10 fc11 fc12 fc13 fc20 fc21
      have em0W2 : W2.cell? ⟨w.heap.size, 0, none⟩ = some (.int .i64 m.g) := cell_of_block ZmW2.out 0 (by simp)
      have em1W2 : W2.cell? ⟨w.heap.size, 1, none⟩ = some (.int .i64 m.w) := cell_of_block ZmW2.out 1 (by simp)
      have em2W2 : W2.cell? ⟨w.heap.size, 2, none⟩ = some (.int .i64 m.xl) := cell_of_block ZmW2.out 2 (by simp)
      have em3W2 : W2.cell? ⟨w.heap.size, 3, none⟩ = some (.int .i64 m.xh) := cell_of_block ZmW2.out 3 (by simp)
      have em4W2 : W2.cell? ⟨w.heap.size, 4, none⟩ = some (.int .i64 m.hl) := cell_of_block ZmW2.out 4 (by simp)
      have em5W2 : W2.cell? ⟨w.heap.size, 5, none⟩ = some (.int .i64 m.hh) := cell_of_block ZmW2.out 5 (by simp)
      have lmW2 := (Array.getElem?_eq_some_iff.1 ZmW2.out).1
      have z12 := SBW2.out.size
      have n1 := (Array.getElem?_eq_some_iff.1 Zc2.out).1
      refine wp_region_box1 [true, true, true, true, true, true, true, true, true, true, true, true, true, true, true, true, true, true, true, true, true, false, false] 21 22 #[.int .i64 0, .int .i64 0] #[.int .i64 (m.w - kh), .int .i64 (m.w - kl)] (by kernel_rfl) rfl rfl rfl (by kernel_rfl) rfl (by kernel_rfl) infoSpn rfl rfl (by simp [Value.oneCell']) ?_
      apply Exists.intro
      refine ⟨fun S hS hx => ?_, ?_, ?_⟩
      · obtain ⟨x0, hx0⟩ := hx
        haveI : Nonempty (GrewS W2 S) := ⟨⟨x0, hx0⟩⟩
        simp only [pickM]
        repeat (go_big_quiet_step (first | (go_at_call 55; with_reducible exact Calls.gwS_same (D1.out _)) | (go_at_call 56; with_reducible exact Calls.gwS_same (D2.out _))))
        exact wpQuiet_nil rfl
      · rfl
      · intro B21 v21 hBw21 hblk hbb
        have HK21 := Lib.hid hblk; clear hblk
        have SBv21 := Lib.hid (hbb)
        have Zmv21 := Lib.hid ((SBv21.out.block _ (Array.getElem?_eq_some_iff.1 ZmW2.out).1).trans ZmW2.out)
        have Zav21 := Lib.hid ((SBv21.out.block _ (Array.getElem?_eq_some_iff.1 ZaW2.out).1).trans ZaW2.out)
        have Zbv21 := Lib.hid ((SBv21.out.block _ (Array.getElem?_eq_some_iff.1 ZbW2.out).1).trans ZbW2.out)
        have HBv21 := Lib.hid (thru SBv21.out HBW2.out)
        have zsv21 := SBv21.out.size
        clear hbb em0W2 em1W2 em2W2 em3W2 em4W2 em5W2
        go_upto_region 4 with (fail)
        simp only [Act.put, List.setIfInBounds_toArray, List.set_cons_succ, List.set_cons_zero]
        have ev0v21 : v21.cell? ⟨B21, 0, none⟩ = some (.int .i64 (m.w - kh)) := cell_of_block HK21.out 0 (by simp)
        have ev1v21 : v21.cell? ⟨B21, 1, none⟩ = some (.int .i64 (m.w - kl)) := cell_of_block HK21.out 1 (by simp)
        have lvv21 := (Array.getElem?_eq_some_iff.1 HK21.out).1
        have ea0v21 : v21.cell? ⟨w.heap.size + 1, 0, none⟩ = some (.int .i64 0) := cell_of_block Zav21.out 0 (by simp)
        have fa0v21 := frozen_of_block Zav21.out 0
        have ea1v21 : v21.cell? ⟨w.heap.size + 1, 1, none⟩ = some (.int .i64 0) := cell_of_block Zav21.out 1 (by simp)
        have fa1v21 := frozen_of_block Zav21.out 1
        have ea2v21 : v21.cell? ⟨w.heap.size + 1, 2, none⟩ = some (.int .i64 0) := cell_of_block Zav21.out 2 (by simp)
        have fa2v21 := frozen_of_block Zav21.out 2
        have ea3v21 : v21.cell? ⟨w.heap.size + 1, 3, none⟩ = some (.int .i64 0) := cell_of_block Zav21.out 3 (by simp)
        have fa3v21 := frozen_of_block Zav21.out 3
        have lav21 := (Array.getElem?_eq_some_iff.1 Zav21.out).1
        have eb0v21 : v21.cell? ⟨w.heap.size + 1 + 1, 0, none⟩ = some (.int .i64 0) := cell_of_block Zbv21.out 0 (by simp)
        have fb0v21 := frozen_of_block Zbv21.out 0
        have eb1v21 : v21.cell? ⟨w.heap.size + 1 + 1, 1, none⟩ = some (.int .i64 0) := cell_of_block Zbv21.out 1 (by simp)
        have fb1v21 := frozen_of_block Zbv21.out 1
        have lbv21 := (Array.getElem?_eq_some_iff.1 Zbv21.out).1
        go_wp2_with fail
        have LB := Lib.hid (HBv21.out)
        refine bodyPost_ret (v := .tuple #[.agg #[.int .i64 0, .int .i64 0, .int .i64 0, .int .i64 0], .agg #[.int .i64 0, .int .i64 0], .int .i64 10]) (by simp [results, Try.results17, go_sem, *]) rfl ⟨rfl, ?_⟩
        exact setAll_below (setAll_below LB.out LB.out.size (by omega) [.int .i64 0, .int .i64 0, .int .i64 0, .int .i64 0] 0) (Nat.le_trans LB.out.size (setAll_grown _ _ 0 _).size) (by omega) [.int .i64 0, .int .i64 0] 0
    · obtain ⟨e1, e2⟩ := KO.out hs
      rw [e1, e2]
      clear e1 e2 KS KO
      go_enter Try.func17, Try.ntmps17
      go_upto_region 1 with (fail)
      rw [HWc.out]
      go_wp2_with fail
      refine (Calls.grown (VX.out _)).mono ?_
      rintro e w1 ⟨rfl, z1, rfl⟩
      go_upto_region 3 with (fail)
      obtain ⟨W2, hW2⟩ : ∃ W2, gw W1 z1 = W2 := ⟨_, rfl⟩
      have hbW2 : Below W1.heap.size W1 W2 := by rw [← hW2]; exact below_gw W1 z1
      have ZmW2 := Lib.hid ((hbW2.block _ (Array.getElem?_eq_some_iff.1 Zc0.out).1).trans Zc0.out)
      have ZaW2 := Lib.hid ((hbW2.block _ (Array.getElem?_eq_some_iff.1 Zc1.out).1).trans Zc1.out)
      have ZbW2 := Lib.hid ((hbW2.block _ (Array.getElem?_eq_some_iff.1 Zc2.out).1).trans Zc2.out)
      have HBW2 := Lib.hid (thru hbW2 HBc.out)
      have SBW2 := Lib.hid hbW2; clear hbW2
      have HWW2 := Lib.hid hW2; clear hW2
      rw [HWW2.out]
      clear c00 c01 c02 c03 c04 c05 c10 c11 c12 c13 c20 c21 fc10 fc11 fc12 fc13 fc20 fc21
      have em0W2 : W2.cell? ⟨w.heap.size, 0, none⟩ = some (.int .i64 m.g) := cell_of_block ZmW2.out 0 (by simp)
      have em1W2 : W2.cell? ⟨w.heap.size, 1, none⟩ = some (.int .i64 m.w) := cell_of_block ZmW2.out 1 (by simp)
      have em2W2 : W2.cell? ⟨w.heap.size, 2, none⟩ = some (.int .i64 m.xl) := cell_of_block ZmW2.out 2 (by simp)
      have em3W2 : W2.cell? ⟨w.heap.size, 3, none⟩ = some (.int .i64 m.xh) := cell_of_block ZmW2.out 3 (by simp)
      have em4W2 : W2.cell? ⟨w.heap.size, 4, none⟩ = some (.int .i64 m.hl) := cell_of_block ZmW2.out 4 (by simp)
      have em5W2 : W2.cell? ⟨w.heap.size, 5, none⟩ = some (.int .i64 m.hh) := cell_of_block ZmW2.out 5 (by simp)
      have lmW2 := (Array.getElem?_eq_some_iff.1 ZmW2.out).1
      have z12 := SBW2.out.size
      have n1 := (Array.getElem?_eq_some_iff.1 Zc2.out).1
      refine wp_region_box1 [true, true, true, true, true, true, true, true, true, true, true, true, true, true, true, true, true, true, true, true, true, false, false] 21 22 #[.int .i64 0, .int .i64 0] #[.int .i64 (m.w - kh), .int .i64 (m.w - kl)] (by kernel_rfl) rfl rfl rfl (by kernel_rfl) rfl (by kernel_rfl) infoSpn rfl rfl (by simp [Value.oneCell']) ?_
      apply Exists.intro
      refine ⟨fun S hS hx => ?_, ?_, ?_⟩
      · obtain ⟨x0, hx0⟩ := hx
        haveI : Nonempty (GrewS W2 S) := ⟨⟨x0, hx0⟩⟩
        simp only [pickM]
        repeat (go_big_quiet_step (first | (go_at_call 55; with_reducible exact Calls.gwS_same (D1.out _)) | (go_at_call 56; with_reducible exact Calls.gwS_same (D2.out _))))
        exact wpQuiet_nil rfl
      · rfl
      · intro B21 v21 hBw21 hblk hbb
        have HK21 := Lib.hid hblk; clear hblk
        have SBv21 := Lib.hid (hbb)
        have Zmv21 := Lib.hid ((SBv21.out.block _ (Array.getElem?_eq_some_iff.1 ZmW2.out).1).trans ZmW2.out)
        have Zav21 := Lib.hid ((SBv21.out.block _ (Array.getElem?_eq_some_iff.1 ZaW2.out).1).trans ZaW2.out)
        have Zbv21 := Lib.hid ((SBv21.out.block _ (Array.getElem?_eq_some_iff.1 ZbW2.out).1).trans ZbW2.out)
        have HBv21 := Lib.hid (thru SBv21.out HBW2.out)
        have zsv21 := SBv21.out.size
        clear hbb em0W2 em1W2 em2W2 em3W2 em4W2 em5W2
        go_upto_region 4 with (fail)
        simp only [Act.put, List.setIfInBounds_toArray, List.set_cons_succ, List.set_cons_zero]
        have ev0v21 : v21.cell? ⟨B21, 0, none⟩ = some (.int .i64 (m.w - kh)) := cell_of_block HK21.out 0 (by simp)
        have ev1v21 : v21.cell? ⟨B21, 1, none⟩ = some (.int .i64 (m.w - kl)) := cell_of_block HK21.out 1 (by simp)
        have lvv21 := (Array.getElem?_eq_some_iff.1 HK21.out).1
        have em0v21 : v21.cell? ⟨w.heap.size, 0, none⟩ = some (.int .i64 m.g) := cell_of_block Zmv21.out 0 (by simp)
        have em1v21 : v21.cell? ⟨w.heap.size, 1, none⟩ = some (.int .i64 m.w) := cell_of_block Zmv21.out 1 (by simp)
        have em2v21 : v21.cell? ⟨w.heap.size, 2, none⟩ = some (.int .i64 m.xl) := cell_of_block Zmv21.out 2 (by simp)
        have em3v21 : v21.cell? ⟨w.heap.size, 3, none⟩ = some (.int .i64 m.xh) := cell_of_block Zmv21.out 3 (by simp)
        have em4v21 : v21.cell? ⟨w.heap.size, 4, none⟩ = some (.int .i64 m.hl) := cell_of_block Zmv21.out 4 (by simp)
        have em5v21 : v21.cell? ⟨w.heap.size, 5, none⟩ = some (.int .i64 m.hh) := cell_of_block Zmv21.out 5 (by simp)
        have lmv21 := (Array.getElem?_eq_some_iff.1 Zmv21.out).1
        obtain ⟨q0, q1⟩ := mash_times s0 s1 (show 0 ≤ m.w - kh by omega) (by omega)
        obtain ⟨q2, q3⟩ := mash_times s2 s3 (show 0 ≤ m.w - kl by omega) (by omega)
        obtain ⟨q4, q5⟩ := mash_times s0 s1 k0 (by omega)
        obtain ⟨q6, q7⟩ := mash_times s2 s3 (show 0 ≤ kh by omega) (by omega)
        have el : m.w - (m.w - kl) = kl := by omega
        have eh : m.w - (m.w - kh) = kh := by omega
        have D3 := Lib.hid (show ∀ w, Calls Try.prog 56 #[.int .i64 (m.g * m.xl * (m.w - kh)), .int .i64 (1000 * m.w)] w fun e w' => e = .returned (.int .i64 (m.sl (m.w - kh))) ∧ w = w' from fun w => rfloor_any _ _ w (by omega) (by omega) (by omega))
        have D4 := Lib.hid (show ∀ w, Calls Try.prog 55 #[.int .i64 (m.g * m.xh * (m.w - kl)), .int .i64 (1000 * m.w)] w fun e w' => e = .returned (.int .i64 (m.sh (m.w - kl))) ∧ w = w' from fun w => rceil_any _ _ w (by omega) (by omega) (by omega))
        have D5 := Lib.hid (show ∀ w, Calls Try.prog 56 #[.int .i64 (m.g * m.xl * (m.w - (m.w - kl))), .int .i64 (1000 * m.w)] w fun e w' => e = .returned (.int .i64 (m.sl kl)) ∧ w = w' by rw [el]; exact fun w => rfloor_any _ _ w (by omega) (by omega) (by omega))
        have D6 := Lib.hid (show ∀ w, Calls Try.prog 55 #[.int .i64 (m.g * m.xh * (m.w - (m.w - kh))), .int .i64 (1000 * m.w)] w fun e w' => e = .returned (.int .i64 (m.sh kh)) ∧ w = w' by rw [eh]; exact fun w => rceil_any _ _ w (by omega) (by omega) (by omega))
        go_upto_region 7 with (fail)
        refine wp_region_box1 [true, true, true, true, true, true, true, true, true, true, true, true, true, true, true, true, true, true, true, true, true, true, true, false, false] 23 24 #[.int .i64 0, .int .i64 0] #[.int .i64 (m.sl (m.w - kh)), .int .i64 (m.sh (m.w - kl))] (by kernel_rfl) rfl rfl rfl (by kernel_rfl) rfl (by kernel_rfl) infoSpn rfl rfl (by simp [Value.oneCell']) ?_
        apply Exists.intro
        refine ⟨fun S hS hx => ?_, ?_, ?_⟩
        · obtain ⟨x0, hx0⟩ := hx
          haveI : Nonempty (GrewS v21 S) := ⟨⟨x0, hx0⟩⟩
          simp only [pickM]
          repeat (go_big_quiet_step (first | (go_at_call 55; with_reducible exact Calls.gwS_same (D4.out _)) | (go_at_call 56; with_reducible exact Calls.gwS_same (D3.out _))))
          exact wpQuiet_nil rfl
        · rfl
        · intro B23 v23 hBw23 hblk hbb
          have HK23 := Lib.hid hblk; clear hblk
          have SBv23 := Lib.hid (hbb)
          have Zmv23 := Lib.hid ((SBv23.out.block _ (Array.getElem?_eq_some_iff.1 Zmv21.out).1).trans Zmv21.out)
          have Zav23 := Lib.hid ((SBv23.out.block _ (Array.getElem?_eq_some_iff.1 Zav21.out).1).trans Zav21.out)
          have Zbv23 := Lib.hid ((SBv23.out.block _ (Array.getElem?_eq_some_iff.1 Zbv21.out).1).trans Zbv21.out)
          have Zvv23 := Lib.hid ((SBv23.out.block _ (Array.getElem?_eq_some_iff.1 HK21.out).1).trans HK21.out)
          have HBv23 := Lib.hid (thru SBv23.out HBv21.out)
          have zsv23 := SBv23.out.size
          clear hbb em0v21 em1v21 em2v21 em3v21 em4v21 em5v21 ev0v21 ev1v21
          go_upto_region 8 with (fail)
          simp only [Act.put, List.setIfInBounds_toArray, List.set_cons_succ, List.set_cons_zero]
          have ev0v23 : v23.cell? ⟨B21, 0, none⟩ = some (.int .i64 (m.w - kh)) := cell_of_block Zvv23.out 0 (by simp)
          have ev1v23 : v23.cell? ⟨B21, 1, none⟩ = some (.int .i64 (m.w - kl)) := cell_of_block Zvv23.out 1 (by simp)
          have lvv23 := (Array.getElem?_eq_some_iff.1 Zvv23.out).1
          have em0v23 : v23.cell? ⟨w.heap.size, 0, none⟩ = some (.int .i64 m.g) := cell_of_block Zmv23.out 0 (by simp)
          have em1v23 : v23.cell? ⟨w.heap.size, 1, none⟩ = some (.int .i64 m.w) := cell_of_block Zmv23.out 1 (by simp)
          have em2v23 : v23.cell? ⟨w.heap.size, 2, none⟩ = some (.int .i64 m.xl) := cell_of_block Zmv23.out 2 (by simp)
          have em3v23 : v23.cell? ⟨w.heap.size, 3, none⟩ = some (.int .i64 m.xh) := cell_of_block Zmv23.out 3 (by simp)
          have em4v23 : v23.cell? ⟨w.heap.size, 4, none⟩ = some (.int .i64 m.hl) := cell_of_block Zmv23.out 4 (by simp)
          have em5v23 : v23.cell? ⟨w.heap.size, 5, none⟩ = some (.int .i64 m.hh) := cell_of_block Zmv23.out 5 (by simp)
          have lmv23 := (Array.getElem?_eq_some_iff.1 Zmv23.out).1
          rw [← el] at q4 q5
          rw [← eh] at q6 q7
          clear el eh
          refine wp_region_box1 [true, true, true, true, true, true, true, true, true, true, true, true, true, true, true, true, true, true, true, true, true, true, true, true, true, true, true, true, true, false, false] 29 30 #[.int .i64 0, .int .i64 0] #[.int .i64 (m.sl kl), .int .i64 (m.sh kh)] (by kernel_rfl) rfl rfl rfl (by kernel_rfl) rfl (by kernel_rfl) infoSpn rfl rfl (by simp [Value.oneCell']) ?_
          apply Exists.intro
          refine ⟨fun S hS hx => ?_, ?_, ?_⟩
          · obtain ⟨x0, hx0⟩ := hx
            haveI : Nonempty (GrewS v23 S) := ⟨⟨x0, hx0⟩⟩
            simp only [pickM]
            repeat (go_big_quiet_step (first | (go_at_call 55; with_reducible exact Calls.gwS_same (D6.out _)) | (go_at_call 56; with_reducible exact Calls.gwS_same (D5.out _))))
            exact wpQuiet_nil rfl
          · rfl
          · intro B29 v29 hBw29 hblk hbb
            have HK29 := Lib.hid hblk; clear hblk
            have SBv29 := Lib.hid (hbb)
            have Zmv29 := Lib.hid ((SBv29.out.block _ (Array.getElem?_eq_some_iff.1 Zmv23.out).1).trans Zmv23.out)
            have Zav29 := Lib.hid ((SBv29.out.block _ (Array.getElem?_eq_some_iff.1 Zav23.out).1).trans Zav23.out)
            have Zbv29 := Lib.hid ((SBv29.out.block _ (Array.getElem?_eq_some_iff.1 Zbv23.out).1).trans Zbv23.out)
            have Zvv29 := Lib.hid ((SBv29.out.block _ (Array.getElem?_eq_some_iff.1 Zvv23.out).1).trans Zvv23.out)
            have Zsv29 := Lib.hid ((SBv29.out.block _ (Array.getElem?_eq_some_iff.1 HK23.out).1).trans HK23.out)
            have HBv29 := Lib.hid (thru SBv29.out HBv23.out)
            have zsv29 := SBv29.out.size
            clear hbb em0v23 em1v23 em2v23 em3v23 em4v23 em5v23 ev0v23 ev1v23
            go_upto_region 9 with (fail)
            simp only [Act.put, List.setIfInBounds_toArray, List.set_cons_succ, List.set_cons_zero]
            have ze := HBc.out.size
            have lb9 := (Array.getElem?_eq_some_iff.1 Zbv29.out).1
            have la9 := (Array.getElem?_eq_some_iff.1 Zav29.out).1
            refine wp_region_put2 [true, true, true, true, false, false, true] ⟨4, 2, 97, 27, (w.heap.size + 1), #[.int .i64 0, .int .i64 0, .int .i64 0, .int .i64 0], #[.int .i64 (m.sl (m.w - kh)), .int .i64 (m.sh (m.w - kl)), .int .i64 (m.w - kh), .int .i64 (m.w - kl)]⟩ ⟨5, 3, 98, 23, (w.heap.size + 1 + 1), #[.int .i64 0, .int .i64 0], #[.int .i64 (m.sl kl), .int .i64 (m.sh kh)]⟩ (by kernel_rfl) rfl (by kernel_rfl) (fun s hs => by injection (show some _ = some s from hs) with hs; subst hs; rfl) (fun s hs => by injection (show some _ = some s from hs) with hs; subst hs; rfl) (by first | omega | (dsimp only; omega)) Zav29.out Zbv29.out (by kernel_rfl) (by kernel_rfl) rfl rfl (by simp [Value.oneCell']) (by simp [Value.oneCell']) ?_
            apply Exists.intro
            refine ⟨fun Wx hN hZ S hS hx => ?_, ?_, ?_, fun wx PX => ?_⟩
            · haveI := hx
              clear hZ
              have yv := hN _ _ (by first | omega | (dsimp only; omega)) (by first | omega | (dsimp only; omega)) Zvv29.out
              have yv0 : Wx.cell? ⟨B21, 0, none⟩ = some (.int .i64 (m.w - kh)) := cell_of_block yv 0 (by simp)
              have yv1 : Wx.cell? ⟨B21, 1, none⟩ = some (.int .i64 (m.w - kl)) := cell_of_block yv 1 (by simp)
              have ylv := (Array.getElem?_eq_some_iff.1 yv).1
              have Yv := Lib.hid yv; clear yv
              have ys := hN _ _ (by first | omega | (dsimp only; omega)) (by first | omega | (dsimp only; omega)) Zsv29.out
              have ys0 : Wx.cell? ⟨B23, 0, none⟩ = some (.int .i64 (m.sl (m.w - kh))) := cell_of_block ys 0 (by simp)
              have ys1 : Wx.cell? ⟨B23, 1, none⟩ = some (.int .i64 (m.sh (m.w - kl))) := cell_of_block ys 1 (by simp)
              have yls := (Array.getElem?_eq_some_iff.1 ys).1
              have Ys := Lib.hid ys; clear ys
              have yl := hN _ _ (by first | omega | (dsimp only; omega)) (by first | omega | (dsimp only; omega)) HK29.out
              have yl0 : Wx.cell? ⟨B29, 0, none⟩ = some (.int .i64 (m.sl kl)) := cell_of_block yl 0 (by simp)
              have yl1 : Wx.cell? ⟨B29, 1, none⟩ = some (.int .i64 (m.sh kh)) := cell_of_block yl 1 (by simp)
              have yll := (Array.getElem?_eq_some_iff.1 yl).1
              have Yl := Lib.hid yl; clear yl
              simp only [pickM]
              repeat (go_big_quiet_step (fail))
              exact wpQuiet_nil rfl
            · exact ⟨rfl, rfl⟩
            · exact ⟨rfl, rfl⟩
            · have LW := Lib.hid (PX.below HBv29.out (Nat.le_refl _) (by first | omega | (dsimp only; omega)) (by first | omega | (dsimp only; omega)))
              have r1 := PX.b1
              have r2 := PX.b2
              clear PX
              dsimp only at r1 r2
              have a0 := cell_of_block r1 0 (by simp)
              have a1 := cell_of_block r1 1 (by simp)
              have a2 := cell_of_block r1 2 (by simp)
              have a3 := cell_of_block r1 3 (by simp)
              have b0 := cell_of_block r2 0 (by simp)
              have b1 := cell_of_block r2 1 (by simp)
              simp at a0 a1 a2 a3 b0 b1
              clear r1 r2
              go_wp2_with fail
              refine bodyPost_ret (v := .tuple #[.agg #[.int .i64 (m.sl (m.w - kh)), .int .i64 (m.sh (m.w - kl)), .int .i64 (m.w - kh), .int .i64 (m.w - kl)], .agg #[.int .i64 (m.sl kl), .int .i64 (m.sh kh)], .int .i64 0]) (by simp [results, Try.results17, go_sem, *]) rfl ⟨rfl, LW.out⟩
end Go.Proofs.Ytecbacbecopbeaa
