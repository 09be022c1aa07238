/- HouseFound walked: it returns true. No conditions beyond each theorem's own. -/
import Derived.Test.YtljofnmgddfljaaFl
import Derived.Test.YtljofnmgddfljaaFf
import Derived.Test.YtljofnmgddfljaaFj
import Derived.Test.YtljofnmgddfljaaAi
import Derived.Test.YtljofnmgddfljaaCb
set_option linter.unusedVariables false
set_option linter.unusedSimpArgs false
set_option linter.unusedSectionVars false
set_option linter.constructorNameAsVariable false
namespace Go.Proofs.Ytljofnmgddfljaa
open Go.RowKit

attribute [local go_sem] gw_cell gw_frozen gw_size

set_option maxRecDepth 100000 in
set_option maxHeartbeats 16000000 in
theorem found_b (C : Clim) (x : Cont) (aS aB : Option Addr) (k cS nb cB : Nat) (F G U : Nat → Int) (day off tk ad : Int) (w : World) (hC : C.In w) (hl : Lens C k) (hS : SpansAt w aS k F G) (hU : NumsAt .u32 w aB nb U) (hr : ∀ i, i < nb → 0 ≤ U i ∧ U i ≤ 4294967295) (hn2 : nb ≤ 9223372036854775807)
    (o0 : 0 ≤ off) (o1 : off ≤ 65535) (k0 : 0 ≤ tk) (k1 : tk ≤ 65535) (d0 : 0 ≤ ad) (d1 : ad ≤ 65535) (g6 : ¬ x.day < F 0) :
    Calls Try.prog 5 #[.agg #[.int .i64 C.days, .slice C.aA C.nA C.cA, .slice C.aW C.nW C.cW], x.val, .slice aS k cS, .int .i64 day, .slice aB nb cB, .int .u16 off, .int .u16 tk, .int .u16 ad] w (True1 w) := by
  unfold Cont.val
  obtain ⟨W1, hW1⟩ : ∃ W1, (w.alloc (.cells #[.int .i64 C.days, .slice C.aA C.nA C.cA, .slice C.aW C.nW C.cW] 24)).alloc (.cells #[.int .i64 x.day, .int .i64 x.alo, .int .i64 x.ahi, .int .i64 x.wlo, .int .i64 x.whi] 28) = W1 := ⟨_, rfl⟩
  have hBc : Below w.heap.size w W1 := by rw [← hW1]; exact (below_alloc _ _).alloc (by simp) _
  have zc0 : W1.heap[w.heap.size]? = some (.cells #[.int .i64 C.days, .slice C.aA C.nA C.cA, .slice C.aW C.nW C.cW] 24 (0, 0)) := by rw [← hW1]; exact alloc_keep (alloc_at rfl)
  have zc1 : W1.heap[w.heap.size + 1]? = some (.cells #[.int .i64 x.day, .int .i64 x.alo, .int .i64 x.ahi, .int .i64 x.wlo, .int .i64 x.whi] 28 (0, 0)) := by rw [← hW1]; exact alloc_at (by simp)
  have c00 : W1.cell? ⟨w.heap.size, 0, none⟩ = some (.int .i64 C.days) := cell_of_block zc0 0 (by simp)
  have c01 : W1.cell? ⟨w.heap.size, 1, none⟩ = some (.slice C.aA C.nA C.cA) := cell_of_block zc0 1 (by simp)
  have c02 : W1.cell? ⟨w.heap.size, 2, none⟩ = some (.slice C.aW C.nW C.cW) := cell_of_block zc0 2 (by simp)
  have c10 : W1.cell? ⟨w.heap.size + 1, 0, none⟩ = some (.int .i64 x.day) := cell_of_block zc1 0 (by simp)
  have c11 : W1.cell? ⟨w.heap.size + 1, 1, none⟩ = some (.int .i64 x.alo) := cell_of_block zc1 1 (by simp)
  have c12 : W1.cell? ⟨w.heap.size + 1, 2, none⟩ = some (.int .i64 x.ahi) := cell_of_block zc1 2 (by simp)
  have c13 : W1.cell? ⟨w.heap.size + 1, 3, none⟩ = some (.int .i64 x.wlo) := cell_of_block zc1 3 (by simp)
  have c14 : W1.cell? ⟨w.heap.size + 1, 4, none⟩ = some (.int .i64 x.whi) := cell_of_block zc1 4 (by simp)
  have lc0 := (Array.getElem?_eq_some_iff.1 zc0).1
  have lc1 := (Array.getElem?_eq_some_iff.1 zc1).1
  have Zc0 := Lib.hid zc0
  have Zc1 := Lib.hid zc1
  clear zc0 zc1
  have HBc := Lib.hid hBc; clear hBc
  have HWc := Lib.hid hW1; clear hW1
  have GR := fun W b (hb : Below W1.heap.size W1 W) (hlt : b < W.heap.size) (hc : W.cell? ⟨b, 0, none⟩ = some (.int .i64 day)) => great_x C x aS k cS (some ⟨b, 0, none⟩) 1 1 (fun _ => day) W ((hC.below HBc.out).below hb) hl (ints_one hlt hc) (by omega)
  have HC := Lib.hid (hC.below HBc.out); clear hC
  have HS := Lib.hid (hS.below HBc.out); clear hS
  have HU := Lib.hid (hU.below HBc.out); clear hU
  have HR := Lib.hid hr; clear hr
  have GB := Lib.hid (greatB_false (C := C) (x := x) (k := k) (nd := 1) (D := fun _ => day))
  obtain ⟨gb, hgb⟩ : ∃ gb, greatB C x k 1 (fun _ => day) = gb := ⟨_, rfl⟩
  rw [hgb] at GB GR
  clear hgb
  unfold Cont.val at GR
  obtain ⟨u, hu⟩ : ∃ u, IntKind.i64.wrap (day - x.day) = u := ⟨_, rfl⟩
  cases gb with
  | true =>
    have GR' := Lib.hid GR; clear GR
    as_aux_lemma =>
      go_enter Try.func5, Try.ntmps5
      go_wp2_with fail
      rw [HWc.out]
      refine wp_region_lead 4 _ (by kernel_rfl) rfl rfl (by kernel_rfl) ?_
      simp only [List.take_succ_cons, List.take_zero]
      repeat (go_big_quiet_step (fail))
      refine wpQuiet_nil ?_
      rintro _ ⟨y, rfl⟩
      refine build_day _ rfl rfl ?_
      simp only [Act.put, List.setIfInBounds_toArray, List.set_cons_succ, List.set_cons_zero, gw_size, List.drop_succ_cons, List.drop_zero]
      obtain ⟨V, hV⟩ : ∃ V, (gw W1 y).alloc (.cells #[.int .i64 day] 3) = V := ⟨_, rfl⟩
      have hbV : Below W1.heap.size W1 V := by rw [← hV]; exact (below_gw W1 y).alloc (by simp [gw_size]) _
      have zV : V.heap[W1.heap.size + y.bs.size]? = some (.cells #[.int .i64 day] 3 (0, 0)) := by rw [← hV]; exact alloc_at (by simp [gw_size])
      have SV := Lib.hid hbV
      have HBV := Lib.hid (thru hbV HBc.out)
      have GX := Lib.hid (fun W (hb : Below V.heap.size V W) => GR'.out W (W1.heap.size + y.bs.size) (hbV.trans (hb.mono hbV.size)) (Nat.lt_of_lt_of_le (Array.getElem?_eq_some_iff.1 zV).1 hb.size) (below_cell hb (cell_of_block zV 0 (by simp))))
      have e00 := below_cell hbV c00
      have e01 := below_cell hbV c01
      have e02 := below_cell hbV c02
      have e10 := below_cell hbV c10
      have e11 := below_cell hbV c11
      have e12 := below_cell hbV c12
      have e13 := below_cell hbV c13
      have e14 := below_cell hbV c14
      have m0 := Nat.lt_of_lt_of_le lc0 hbV.size
      have m1 := Nat.lt_of_lt_of_le lc1 hbV.size
      have ZV0 := Lib.hid ((hbV.block _ lc0).trans Zc0.out)
      have ZV1 := Lib.hid ((hbV.block _ lc1).trans Zc1.out)
      rw [hV]
      refine ⟨gw_of_below hbV, ?_⟩
      clear hV hbV zV c00 c01 c02 c10 c11 c12 c13 c14
      repeat (go_big_quiet_step (first | (go_at_call 15; with_reducible exact Calls.gw_of (GX.out _ (below_gw V _)))))
      refine wpQuiet_nil ?_
      rintro _ ⟨z, rfl⟩
      go_wp2_with fail
      refine (Calls.gw_of (alive_any _)).mono ?_
      rintro e w1 ⟨rfl, z2, rfl⟩
      go_wp2_with fail
      go_ret
      exact ⟨rfl, HBV.out.gw z2⟩
  | false =>
    have gd := GB.out rfl
    have hk : k ≤ 1000000000000000 := by have := gd.1.st; omega
    have HGD := Lib.hid (And.intro gd.1.fits hk)
    clear gd hk
    have GR' := Lib.hid GR; clear GR
    by_cases hu4 : 400 < u
    · have b4 : decide (400 < u) = true := decide_eq_true hu4
      as_aux_lemma =>
        go_enter Try.func5, Try.ntmps5
        go_wp2_with fail
        rw [HWc.out]
        refine wp_region_lead 4 _ (by kernel_rfl) rfl rfl (by kernel_rfl) ?_
        simp only [List.take_succ_cons, List.take_zero]
        repeat (go_big_quiet_step (fail))
        refine wpQuiet_nil ?_
        rintro _ ⟨y, rfl⟩
        refine build_day _ rfl rfl ?_
        simp only [Act.put, List.setIfInBounds_toArray, List.set_cons_succ, List.set_cons_zero, gw_size, List.drop_succ_cons, List.drop_zero]
        obtain ⟨V, hV⟩ : ∃ V, (gw W1 y).alloc (.cells #[.int .i64 day] 3) = V := ⟨_, rfl⟩
        have hbV : Below W1.heap.size W1 V := by rw [← hV]; exact (below_gw W1 y).alloc (by simp [gw_size]) _
        have zV : V.heap[W1.heap.size + y.bs.size]? = some (.cells #[.int .i64 day] 3 (0, 0)) := by rw [← hV]; exact alloc_at (by simp [gw_size])
        have SV := Lib.hid hbV
        have HBV := Lib.hid (thru hbV HBc.out)
        have GX := Lib.hid (fun W (hb : Below V.heap.size V W) => GR'.out W (W1.heap.size + y.bs.size) (hbV.trans (hb.mono hbV.size)) (Nat.lt_of_lt_of_le (Array.getElem?_eq_some_iff.1 zV).1 hb.size) (below_cell hb (cell_of_block zV 0 (by simp))))
        have e00 := below_cell hbV c00
        have e01 := below_cell hbV c01
        have e02 := below_cell hbV c02
        have e10 := below_cell hbV c10
        have e11 := below_cell hbV c11
        have e12 := below_cell hbV c12
        have e13 := below_cell hbV c13
        have e14 := below_cell hbV c14
        have m0 := Nat.lt_of_lt_of_le lc0 hbV.size
        have m1 := Nat.lt_of_lt_of_le lc1 hbV.size
        have ZV0 := Lib.hid ((hbV.block _ lc0).trans Zc0.out)
        have ZV1 := Lib.hid ((hbV.block _ lc1).trans Zc1.out)
        rw [hV]
        refine ⟨gw_of_below hbV, ?_⟩
        clear hV hbV zV c00 c01 c02 c10 c11 c12 c13 c14
        repeat (go_big_quiet_step (first | (go_at_call 15; with_reducible exact Calls.gw_of (GX.out _ (below_gw V _)))))
        refine wpQuiet_nil ?_
        rintro _ ⟨z, rfl⟩
        go_wp2_with fail
        refine (Calls.gw_of (alive_any _)).mono ?_
        rintro e w1 ⟨rfl, z2, rfl⟩
        go_wp2_with fail
        go_ret
        exact ⟨rfl, HBV.out.gw z2⟩
    · have b4 : decide (400 < u) = false := decide_eq_false hu4
      by_cases hn : nb = 0
      · have e1 : ((nb : Int) == 0) = true := by simp; omega
        as_aux_lemma =>
          go_enter Try.func5, Try.ntmps5
          go_wp2_with fail
          rw [HWc.out]
          refine wp_region_lead 4 _ (by kernel_rfl) rfl rfl (by kernel_rfl) ?_
          simp only [List.take_succ_cons, List.take_zero]
          repeat (go_big_quiet_step (fail))
          refine wpQuiet_nil ?_
          rintro _ ⟨y, rfl⟩
          refine build_day _ rfl rfl ?_
          simp only [Act.put, List.setIfInBounds_toArray, List.set_cons_succ, List.set_cons_zero, gw_size, List.drop_succ_cons, List.drop_zero]
          obtain ⟨V, hV⟩ : ∃ V, (gw W1 y).alloc (.cells #[.int .i64 day] 3) = V := ⟨_, rfl⟩
          have hbV : Below W1.heap.size W1 V := by rw [← hV]; exact (below_gw W1 y).alloc (by simp [gw_size]) _
          have zV : V.heap[W1.heap.size + y.bs.size]? = some (.cells #[.int .i64 day] 3 (0, 0)) := by rw [← hV]; exact alloc_at (by simp [gw_size])
          have SV := Lib.hid hbV
          have HBV := Lib.hid (thru hbV HBc.out)
          have GX := Lib.hid (fun W (hb : Below V.heap.size V W) => GR'.out W (W1.heap.size + y.bs.size) (hbV.trans (hb.mono hbV.size)) (Nat.lt_of_lt_of_le (Array.getElem?_eq_some_iff.1 zV).1 hb.size) (below_cell hb (cell_of_block zV 0 (by simp))))
          have e00 := below_cell hbV c00
          have e01 := below_cell hbV c01
          have e02 := below_cell hbV c02
          have e10 := below_cell hbV c10
          have e11 := below_cell hbV c11
          have e12 := below_cell hbV c12
          have e13 := below_cell hbV c13
          have e14 := below_cell hbV c14
          have m0 := Nat.lt_of_lt_of_le lc0 hbV.size
          have m1 := Nat.lt_of_lt_of_le lc1 hbV.size
          have ZV0 := Lib.hid ((hbV.block _ lc0).trans Zc0.out)
          have ZV1 := Lib.hid ((hbV.block _ lc1).trans Zc1.out)
          rw [hV]
          refine ⟨gw_of_below hbV, ?_⟩
          clear hV hbV zV c00 c01 c02 c10 c11 c12 c13 c14
          repeat (go_big_quiet_step (first | (go_at_call 15; with_reducible exact Calls.gw_of (GX.out _ (below_gw V _)))))
          refine wpQuiet_nil ?_
          rintro _ ⟨z, rfl⟩
          go_wp2_with fail
          refine (Calls.gw_of (alive_any _)).mono ?_
          rintro e w1 ⟨rfl, z2, rfl⟩
          go_wp2_with fail
          go_ret
          exact ⟨rfl, HBV.out.gw z2⟩
      · obtain ⟨n, rfl⟩ : ∃ n, nb = n + 1 := ⟨nb - 1, by omega⟩
        have e1 : (((n : Int) + 1) == 0) = false := by simp; omega
        cases g1 : climB C with
        | false =>
          have CLI' := Lib.hid (fun W (hb : Below W1.heap.size W1 W) => rClimate_b C W (HC.out.below hb) HGD.out.1 g1)
          clear g1
          as_aux_lemma =>
            go_enter Try.func5, Try.ntmps5
            go_wp2_with fail
            rw [HWc.out]
            refine wp_region_lead 4 _ (by kernel_rfl) rfl rfl (by kernel_rfl) ?_
            simp only [List.take_succ_cons, List.take_zero]
            repeat (go_big_quiet_step (fail))
            refine wpQuiet_nil ?_
            rintro _ ⟨y, rfl⟩
            refine build_day _ rfl rfl ?_
            simp only [Act.put, List.setIfInBounds_toArray, List.set_cons_succ, List.set_cons_zero, gw_size, List.drop_succ_cons, List.drop_zero]
            obtain ⟨V, hV⟩ : ∃ V, (gw W1 y).alloc (.cells #[.int .i64 day] 3) = V := ⟨_, rfl⟩
            have hbV : Below W1.heap.size W1 V := by rw [← hV]; exact (below_gw W1 y).alloc (by simp [gw_size]) _
            have zV : V.heap[W1.heap.size + y.bs.size]? = some (.cells #[.int .i64 day] 3 (0, 0)) := by rw [← hV]; exact alloc_at (by simp [gw_size])
            have SV := Lib.hid hbV
            have HBV := Lib.hid (thru hbV HBc.out)
            have GX := Lib.hid (fun W (hb : Below V.heap.size V W) => GR'.out W (W1.heap.size + y.bs.size) (hbV.trans (hb.mono hbV.size)) (Nat.lt_of_lt_of_le (Array.getElem?_eq_some_iff.1 zV).1 hb.size) (below_cell hb (cell_of_block zV 0 (by simp))))
            have e00 := below_cell hbV c00
            have e01 := below_cell hbV c01
            have e02 := below_cell hbV c02
            have e10 := below_cell hbV c10
            have e11 := below_cell hbV c11
            have e12 := below_cell hbV c12
            have e13 := below_cell hbV c13
            have e14 := below_cell hbV c14
            have m0 := Nat.lt_of_lt_of_le lc0 hbV.size
            have m1 := Nat.lt_of_lt_of_le lc1 hbV.size
            have ZV0 := Lib.hid ((hbV.block _ lc0).trans Zc0.out)
            have ZV1 := Lib.hid ((hbV.block _ lc1).trans Zc1.out)
            rw [hV]
            refine ⟨gw_of_below hbV, ?_⟩
            clear hV hbV zV c00 c01 c02 c10 c11 c12 c13 c14
            repeat (go_big_quiet_step (first | (go_at_call 15; with_reducible exact Calls.gw_of (GX.out _ (below_gw V _))) | (go_at_call 26; with_reducible exact Calls.gw_of (CLI'.out _ (SV.out.trans ((below_gw V _).mono SV.out.size))))))
            refine wpQuiet_nil ?_
            rintro _ ⟨z, rfl⟩
            go_wp2_with fail
            refine (Calls.gw_of (alive_any _)).mono ?_
            rintro e w1 ⟨rfl, z2, rfl⟩
            go_wp2_with fail
            go_ret
            exact ⟨rfl, HBV.out.gw z2⟩
        | true =>
          have CLI' := Lib.hid (fun W (hb : Below W1.heap.size W1 W) => rClimate_b C W (HC.out.below hb) HGD.out.1 g1)
          cases g2 : contB x with
          | false =>
            have CON' := Lib.hid (fun W => rContent_b x W g2)
            clear g1 g2
            as_aux_lemma =>
              go_enter Try.func5, Try.ntmps5
              go_wp2_with fail
              rw [HWc.out]
              refine wp_region_lead 4 _ (by kernel_rfl) rfl rfl (by kernel_rfl) ?_
              simp only [List.take_succ_cons, List.take_zero]
              repeat (go_big_quiet_step (fail))
              refine wpQuiet_nil ?_
              rintro _ ⟨y, rfl⟩
              refine build_day _ rfl rfl ?_
              simp only [Act.put, List.setIfInBounds_toArray, List.set_cons_succ, List.set_cons_zero, gw_size, List.drop_succ_cons, List.drop_zero]
              obtain ⟨V, hV⟩ : ∃ V, (gw W1 y).alloc (.cells #[.int .i64 day] 3) = V := ⟨_, rfl⟩
              have hbV : Below W1.heap.size W1 V := by rw [← hV]; exact (below_gw W1 y).alloc (by simp [gw_size]) _
              have zV : V.heap[W1.heap.size + y.bs.size]? = some (.cells #[.int .i64 day] 3 (0, 0)) := by rw [← hV]; exact alloc_at (by simp [gw_size])
              have SV := Lib.hid hbV
              have HBV := Lib.hid (thru hbV HBc.out)
              have GX := Lib.hid (fun W (hb : Below V.heap.size V W) => GR'.out W (W1.heap.size + y.bs.size) (hbV.trans (hb.mono hbV.size)) (Nat.lt_of_lt_of_le (Array.getElem?_eq_some_iff.1 zV).1 hb.size) (below_cell hb (cell_of_block zV 0 (by simp))))
              have e00 := below_cell hbV c00
              have e01 := below_cell hbV c01
              have e02 := below_cell hbV c02
              have e10 := below_cell hbV c10
              have e11 := below_cell hbV c11
              have e12 := below_cell hbV c12
              have e13 := below_cell hbV c13
              have e14 := below_cell hbV c14
              have m0 := Nat.lt_of_lt_of_le lc0 hbV.size
              have m1 := Nat.lt_of_lt_of_le lc1 hbV.size
              have ZV0 := Lib.hid ((hbV.block _ lc0).trans Zc0.out)
              have ZV1 := Lib.hid ((hbV.block _ lc1).trans Zc1.out)
              rw [hV]
              refine ⟨gw_of_below hbV, ?_⟩
              clear hV hbV zV c00 c01 c02 c10 c11 c12 c13 c14
              repeat (go_big_quiet_step (first | (go_at_call 15; with_reducible exact Calls.gw_of (GX.out _ (below_gw V _))) | (go_at_call 26; with_reducible exact Calls.gw_of (CLI'.out _ (SV.out.trans ((below_gw V _).mono SV.out.size)))) | (go_at_call 18; with_reducible exact Calls.gw_of (CON'.out _))))
              refine wpQuiet_nil ?_
              rintro _ ⟨z, rfl⟩
              go_wp2_with fail
              refine (Calls.gw_of (alive_any _)).mono ?_
              rintro e w1 ⟨rfl, z2, rfl⟩
              go_wp2_with fail
              go_ret
              exact ⟨rfl, HBV.out.gw z2⟩
          | true =>
            have CON' := Lib.hid (fun W => rContent_b x W g2)
            cases g3 : staysB C.nA k F G with
            | false =>
              have STA' := Lib.hid (fun W (hb : Below W1.heap.size W1 W) => rStays_b C aS k cS F G W HGD.out.1 HGD.out.2 (HS.out.below hb) g3)
              clear g1 g2 g3
              as_aux_lemma =>
                go_enter Try.func5, Try.ntmps5
                go_wp2_with fail
                rw [HWc.out]
                refine wp_region_lead 4 _ (by kernel_rfl) rfl rfl (by kernel_rfl) ?_
                simp only [List.take_succ_cons, List.take_zero]
                repeat (go_big_quiet_step (fail))
                refine wpQuiet_nil ?_
                rintro _ ⟨y, rfl⟩
                refine build_day _ rfl rfl ?_
                simp only [Act.put, List.setIfInBounds_toArray, List.set_cons_succ, List.set_cons_zero, gw_size, List.drop_succ_cons, List.drop_zero]
                obtain ⟨V, hV⟩ : ∃ V, (gw W1 y).alloc (.cells #[.int .i64 day] 3) = V := ⟨_, rfl⟩
                have hbV : Below W1.heap.size W1 V := by rw [← hV]; exact (below_gw W1 y).alloc (by simp [gw_size]) _
                have zV : V.heap[W1.heap.size + y.bs.size]? = some (.cells #[.int .i64 day] 3 (0, 0)) := by rw [← hV]; exact alloc_at (by simp [gw_size])
                have SV := Lib.hid hbV
                have HBV := Lib.hid (thru hbV HBc.out)
                have GX := Lib.hid (fun W (hb : Below V.heap.size V W) => GR'.out W (W1.heap.size + y.bs.size) (hbV.trans (hb.mono hbV.size)) (Nat.lt_of_lt_of_le (Array.getElem?_eq_some_iff.1 zV).1 hb.size) (below_cell hb (cell_of_block zV 0 (by simp))))
                have e00 := below_cell hbV c00
                have e01 := below_cell hbV c01
                have e02 := below_cell hbV c02
                have e10 := below_cell hbV c10
                have e11 := below_cell hbV c11
                have e12 := below_cell hbV c12
                have e13 := below_cell hbV c13
                have e14 := below_cell hbV c14
                have m0 := Nat.lt_of_lt_of_le lc0 hbV.size
                have m1 := Nat.lt_of_lt_of_le lc1 hbV.size
                have ZV0 := Lib.hid ((hbV.block _ lc0).trans Zc0.out)
                have ZV1 := Lib.hid ((hbV.block _ lc1).trans Zc1.out)
                rw [hV]
                refine ⟨gw_of_below hbV, ?_⟩
                clear hV hbV zV c00 c01 c02 c10 c11 c12 c13 c14
                repeat (go_big_quiet_step (first | (go_at_call 15; with_reducible exact Calls.gw_of (GX.out _ (below_gw V _))) | (go_at_call 26; with_reducible exact Calls.gw_of (CLI'.out _ (SV.out.trans ((below_gw V _).mono SV.out.size)))) | (go_at_call 18; with_reducible exact Calls.gw_of (CON'.out _)) | (go_at_call 27; with_reducible exact Calls.gw_of (STA'.out _ (SV.out.trans ((below_gw V _).mono SV.out.size))))))
                refine wpQuiet_nil ?_
                rintro _ ⟨z, rfl⟩
                go_wp2_with fail
                refine (Calls.gw_of (alive_any _)).mono ?_
                rintro e w1 ⟨rfl, z2, rfl⟩
                go_wp2_with fail
                go_ret
                exact ⟨rfl, HBV.out.gw z2⟩
            | true =>
              have STA' := Lib.hid (fun W (hb : Below W1.heap.size W1 W) => rStays_b C aS k cS F G W HGD.out.1 HGD.out.2 (HS.out.below hb) g3)
              have HGG := Lib.hid (And.intro g1 (And.intro g2 g3)); clear g1 g2 g3
              by_cases g4 : day < x.day
              · have b5 : decide (day < x.day) = true := decide_eq_true g4
                as_aux_lemma =>
                  go_enter Try.func5, Try.ntmps5
                  go_wp2_with fail
                  rw [HWc.out]
                  refine wp_region_lead 4 _ (by kernel_rfl) rfl rfl (by kernel_rfl) ?_
                  simp only [List.take_succ_cons, List.take_zero]
                  repeat (go_big_quiet_step (fail))
                  refine wpQuiet_nil ?_
                  rintro _ ⟨y, rfl⟩
                  refine build_day _ rfl rfl ?_
                  simp only [Act.put, List.setIfInBounds_toArray, List.set_cons_succ, List.set_cons_zero, gw_size, List.drop_succ_cons, List.drop_zero]
                  obtain ⟨V, hV⟩ : ∃ V, (gw W1 y).alloc (.cells #[.int .i64 day] 3) = V := ⟨_, rfl⟩
                  have hbV : Below W1.heap.size W1 V := by rw [← hV]; exact (below_gw W1 y).alloc (by simp [gw_size]) _
                  have zV : V.heap[W1.heap.size + y.bs.size]? = some (.cells #[.int .i64 day] 3 (0, 0)) := by rw [← hV]; exact alloc_at (by simp [gw_size])
                  have SV := Lib.hid hbV
                  have HBV := Lib.hid (thru hbV HBc.out)
                  have GX := Lib.hid (fun W (hb : Below V.heap.size V W) => GR'.out W (W1.heap.size + y.bs.size) (hbV.trans (hb.mono hbV.size)) (Nat.lt_of_lt_of_le (Array.getElem?_eq_some_iff.1 zV).1 hb.size) (below_cell hb (cell_of_block zV 0 (by simp))))
                  have e00 := below_cell hbV c00
                  have e01 := below_cell hbV c01
                  have e02 := below_cell hbV c02
                  have e10 := below_cell hbV c10
                  have e11 := below_cell hbV c11
                  have e12 := below_cell hbV c12
                  have e13 := below_cell hbV c13
                  have e14 := below_cell hbV c14
                  have m0 := Nat.lt_of_lt_of_le lc0 hbV.size
                  have m1 := Nat.lt_of_lt_of_le lc1 hbV.size
                  have ZV0 := Lib.hid ((hbV.block _ lc0).trans Zc0.out)
                  have ZV1 := Lib.hid ((hbV.block _ lc1).trans Zc1.out)
                  rw [hV]
                  refine ⟨gw_of_below hbV, ?_⟩
                  clear hV hbV zV c00 c01 c02 c10 c11 c12 c13 c14
                  repeat (go_big_quiet_step (first | (go_at_call 15; with_reducible exact Calls.gw_of (GX.out _ (below_gw V _))) | (go_at_call 26; with_reducible exact Calls.gw_of (CLI'.out _ (SV.out.trans ((below_gw V _).mono SV.out.size)))) | (go_at_call 18; with_reducible exact Calls.gw_of (CON'.out _)) | (go_at_call 27; with_reducible exact Calls.gw_of (STA'.out _ (SV.out.trans ((below_gw V _).mono SV.out.size))))))
                  refine wpQuiet_nil ?_
                  rintro _ ⟨z, rfl⟩
                  go_wp2_with fail
                  refine (Calls.gw_of (alive_any _)).mono ?_
                  rintro e w1 ⟨rfl, z2, rfl⟩
                  go_wp2_with fail
                  go_ret
                  exact ⟨rfl, HBV.out.gw z2⟩
              · have b5 : decide (day < x.day) = false := decide_eq_false g4
                by_cases g5 : 65536 < day
                · have b6 : decide (65536 < day) = true := decide_eq_true g5
                  as_aux_lemma =>
                    go_enter Try.func5, Try.ntmps5
                    go_wp2_with fail
                    rw [HWc.out]
                    refine wp_region_lead 4 _ (by kernel_rfl) rfl rfl (by kernel_rfl) ?_
                    simp only [List.take_succ_cons, List.take_zero]
                    repeat (go_big_quiet_step (fail))
                    refine wpQuiet_nil ?_
                    rintro _ ⟨y, rfl⟩
                    refine build_day _ rfl rfl ?_
                    simp only [Act.put, List.setIfInBounds_toArray, List.set_cons_succ, List.set_cons_zero, gw_size, List.drop_succ_cons, List.drop_zero]
                    obtain ⟨V, hV⟩ : ∃ V, (gw W1 y).alloc (.cells #[.int .i64 day] 3) = V := ⟨_, rfl⟩
                    have hbV : Below W1.heap.size W1 V := by rw [← hV]; exact (below_gw W1 y).alloc (by simp [gw_size]) _
                    have zV : V.heap[W1.heap.size + y.bs.size]? = some (.cells #[.int .i64 day] 3 (0, 0)) := by rw [← hV]; exact alloc_at (by simp [gw_size])
                    have SV := Lib.hid hbV
                    have HBV := Lib.hid (thru hbV HBc.out)
                    have GX := Lib.hid (fun W (hb : Below V.heap.size V W) => GR'.out W (W1.heap.size + y.bs.size) (hbV.trans (hb.mono hbV.size)) (Nat.lt_of_lt_of_le (Array.getElem?_eq_some_iff.1 zV).1 hb.size) (below_cell hb (cell_of_block zV 0 (by simp))))
                    have e00 := below_cell hbV c00
                    have e01 := below_cell hbV c01
                    have e02 := below_cell hbV c02
                    have e10 := below_cell hbV c10
                    have e11 := below_cell hbV c11
                    have e12 := below_cell hbV c12
                    have e13 := below_cell hbV c13
                    have e14 := below_cell hbV c14
                    have m0 := Nat.lt_of_lt_of_le lc0 hbV.size
                    have m1 := Nat.lt_of_lt_of_le lc1 hbV.size
                    have ZV0 := Lib.hid ((hbV.block _ lc0).trans Zc0.out)
                    have ZV1 := Lib.hid ((hbV.block _ lc1).trans Zc1.out)
                    rw [hV]
                    refine ⟨gw_of_below hbV, ?_⟩
                    clear hV hbV zV c00 c01 c02 c10 c11 c12 c13 c14
                    repeat (go_big_quiet_step (first | (go_at_call 15; with_reducible exact Calls.gw_of (GX.out _ (below_gw V _))) | (go_at_call 26; with_reducible exact Calls.gw_of (CLI'.out _ (SV.out.trans ((below_gw V _).mono SV.out.size)))) | (go_at_call 18; with_reducible exact Calls.gw_of (CON'.out _)) | (go_at_call 27; with_reducible exact Calls.gw_of (STA'.out _ (SV.out.trans ((below_gw V _).mono SV.out.size))))))
                    refine wpQuiet_nil ?_
                    rintro _ ⟨z, rfl⟩
                    go_wp2_with fail
                    refine (Calls.gw_of (alive_any _)).mono ?_
                    rintro e w1 ⟨rfl, z2, rfl⟩
                    go_wp2_with fail
                    go_ret
                    exact ⟨rfl, HBV.out.gw z2⟩
                · have b6 : decide (65536 < day) = false := decide_eq_false g5
                  have SC : ∃ sb so, aS = some ⟨sb, so, none⟩ ∧ sb < W1.heap.size ∧ W1.cell? ⟨sb, so, none⟩ = some (.int .i64 (F 0)) := by
                    have kk := (staysB_t HGG.out.2.2).1
                    rcases HS.out with h0 | ⟨sb, so, e, sl, sc⟩
                    · omega
                    · exact ⟨sb, so, e, sl, by have := (sc 0 (by omega)).1; simpa using this⟩
                  obtain ⟨sb, so, rfl, sl, s0⟩ := SC
                  have kp : 0 < k := by have := (staysB_t HGG.out.2.2).1; omega
                  · have b7 : decide (x.day < F 0) = false := decide_eq_false g6
                    have HG6 := Lib.hid (show x.day < day → F 0 ≤ x.day from fun h => by omega)
                    go_enter Try.func5, Try.ntmps5
                    go_wp2_with fail
                    rw [HWc.out]
                    refine wp_region_lead 4 _ (by kernel_rfl) rfl rfl (by kernel_rfl) ?_
                    simp only [List.take_succ_cons, List.take_zero]
                    repeat (go_big_quiet_step (fail))
                    refine wpQuiet_nil ?_
                    rintro _ ⟨y, rfl⟩
                    refine build_day _ rfl rfl ?_
                    simp only [Act.put, List.setIfInBounds_toArray, List.set_cons_succ, List.set_cons_zero, gw_size, List.drop_succ_cons, List.drop_zero]
                    obtain ⟨V, hV⟩ : ∃ V, (gw W1 y).alloc (.cells #[.int .i64 day] 3) = V := ⟨_, rfl⟩
                    have hbV : Below W1.heap.size W1 V := by rw [← hV]; exact (below_gw W1 y).alloc (by simp [gw_size]) _
                    have zV : V.heap[W1.heap.size + y.bs.size]? = some (.cells #[.int .i64 day] 3 (0, 0)) := by rw [← hV]; exact alloc_at (by simp [gw_size])
                    have SV := Lib.hid hbV
                    have HBV := Lib.hid (thru hbV HBc.out)
                    have GX := Lib.hid (fun W (hb : Below V.heap.size V W) => GR'.out W (W1.heap.size + y.bs.size) (hbV.trans (hb.mono hbV.size)) (Nat.lt_of_lt_of_le (Array.getElem?_eq_some_iff.1 zV).1 hb.size) (below_cell hb (cell_of_block zV 0 (by simp))))
                    have e00 := below_cell hbV c00
                    have e01 := below_cell hbV c01
                    have e02 := below_cell hbV c02
                    have e10 := below_cell hbV c10
                    have e11 := below_cell hbV c11
                    have e12 := below_cell hbV c12
                    have e13 := below_cell hbV c13
                    have e14 := below_cell hbV c14
                    have m0 := Nat.lt_of_lt_of_le lc0 hbV.size
                    have m1 := Nat.lt_of_lt_of_le lc1 hbV.size
                    have s0V := below_cell hbV s0
                    have slV := Nat.lt_of_lt_of_le sl hbV.size
                    have ZV0 := Lib.hid ((hbV.block _ lc0).trans Zc0.out)
                    have ZV1 := Lib.hid ((hbV.block _ lc1).trans Zc1.out)
                    rw [hV]
                    refine ⟨gw_of_below hbV, ?_⟩
                    clear hV hbV zV c00 c01 c02 c10 c11 c12 c13 c14
                    repeat (go_big_quiet_step (first | (go_at_call 15; with_reducible exact Calls.gw_of (GX.out _ (below_gw V _))) | (go_at_call 26; with_reducible exact Calls.gw_of (CLI'.out _ (SV.out.trans ((below_gw V _).mono SV.out.size)))) | (go_at_call 18; with_reducible exact Calls.gw_of (CON'.out _)) | (go_at_call 27; with_reducible exact Calls.gw_of (STA'.out _ (SV.out.trans ((below_gw V _).mono SV.out.size))))))
                    refine wpQuiet_nil ?_
                    rintro _ ⟨z, rfl⟩
                    obtain ⟨g1, g2, g3⟩ := HGG.out
                    have hE := errH_mk g1 g2 g3 (show x.day ≤ day by omega) (show day ≤ 65536 by omega) HG6.out
                    obtain ⟨⟨xd0, xd1⟩, ⟨xa0, xa1, xa2⟩, xw0, xw1, xw2⟩ := contB_t g2
                    have dd : 0 ≤ day ∧ day ≤ 65536 := by omega
                    have DO := dayC_ok g1 g3 g2 (day - x.day).toNat (by omega)
                    rcases HU.out with h1 | ⟨ub, uo, rfl, ul, uc⟩
                    · omega
                    have U1 := below_cell SV.out (uc 0 (by omega))
                    have U2 := below_cell SV.out (uc n (by omega))
                    have ulV := Nat.lt_of_lt_of_le ul SV.out.size
                    rw [Nat.add_zero] at U1
                    clear uc
                    have R1 := HR.out 0 (by omega)
                    have R2 := HR.out n (by omega)
                    have ir1 := innerI_range (b := U 0) xa1
                    have ir2 := innerI_range (b := U n) xw1
                    have LV := fun W (hb : Below W1.heap.size W1 W) => live_any C x (some ⟨sb, so, none⟩) (some ⟨ub, uo, none⟩) k cS (n + 1) cB F G U day (innerI x.alo x.ahi (U 0)) (innerI x.wlo x.whi (U n)) W (HC.out.below hb) (HS.out.below hb) (HU.out.below hb) HR.out (by omega) hn2 g1 g2 g3 (by omega) (by omega) ⟨ir1.1, ir1.2, ir2.1, ir2.2⟩
                    have LT := fun a t => liveS_truly (U := U) (nb := n + 1) g1 g3 g2 (a0 := innerI x.alo x.ahi (U 0)) (w0 := innerI x.wlo x.whi (U n)) ⟨ir1.1, ir1.2, ir2.1, ir2.2⟩ (day - x.day).toNat a t (by omega)
                    have I1 := fun W => inner_one x.alo x.ahi (U 0) W (by omega) xa1 (by omega) R1.1 R1.2
                    have I2 := fun W => inner_one x.wlo x.whi (U n) W (by omega) xw1 (by omega) R2.1 R2.2
                    have SHX := fun (m : Reg) W (hb : Below W1.heap.size W1 W) => Shows_any C x (some ⟨sb, so, none⟩) k cS F G m W (HC.out.below hb) HGD.out.1 HGD.out.2 (HS.out.below hb)
                    have MEX := fun (m : Reg) W (hb : Below W1.heap.size W1 W) => Measure_any C x (some ⟨sb, so, none⟩) k cS F G m W (HC.out.below hb) HGD.out.1 HGD.out.2 (HS.out.below hb)
                    have HSH := Lib.hid SHX; clear SHX
                    have HME := Lib.hid MEX; clear MEX
                    clear g1 g2 g3
                    have HE := Lib.hid hE; clear hE
                    generalize innerI x.alo x.ahi (U 0) = i1 at *
                    generalize innerI x.wlo x.whi (U n) = i2 at *
                    generalize U 0 = ua at *
                    generalize liveS C F G U k (n + 1) x.day i1 i2 (day - x.day).toNat = lv at *
                    generalize U n = ub' at *
                    have I1' := Lib.hid I1; clear I1
                    have I2' := Lib.hid I2; clear I2
                    clear ir1 ir2
                    cases lv with
                    | none =>
                      simp only [liveO] at LV
                      have LV' := Lib.hid LV; clear LV LT DO
                      have AR' := Lib.hid (fun W => around_any day 0 0 off W (by omega) (by omega) (by omega) (by omega) o0 o1)
                      generalize aroundO day 0 0 off = m at *
                      generalize aroundB 0 0 off = mb at *
                      unfold Reg.val at AR'
                      go_wp2_with fail
                      refine wp_region_gw2 (by kernel_rfl) (by kernel_rfl) ?_
                      repeat (go_big_quiet_step (first | (go_at_call 20; first | (with_reducible exact Calls.gw_of (I1'.out _)) | (with_reducible exact Calls.gw_of (I2'.out _))) | (go_at_call 28; with_reducible exact Calls.gw_of (LV'.out _ (SV.out.trans ((below_gw V _).mono SV.out.size))))))
                      refine wpQuiet_nil ?_
                      rintro _ ⟨z7, rfl⟩
                      clear U1 U2 s0V
                      go_wp2_with fail
                      refine (Calls.gw_of (AR'.out _)).mono ?_
                      rintro e w1 ⟨rfl, z8, rfl⟩
                      go_upto_region 5 with (fail)
                      obtain ⟨W2, hW2⟩ : ∃ W2, ((gw V z8)).alloc (.cells #[.int .i64 m.day, .int .i64 m.vlo, .int .i64 m.vhi, .int .i64 m.slo, .int .i64 m.shi] 44) = W2 := ⟨_, rfl⟩
                      have hbW2 : Below V.heap.size V W2 := by rw [← hW2]; exact (below_gw V z8).alloc (by simp [gw_size]) _
                      have ZcW2 := Lib.hid ((hbW2.block _ (Array.getElem?_eq_some_iff.1 ZV0.out).1).trans ZV0.out)
                      have ZxW2 := Lib.hid ((hbW2.block _ (Array.getElem?_eq_some_iff.1 ZV1.out).1).trans ZV1.out)
                      have zmW2 : W2.heap[V.heap.size + z8.bs.size]? = some (.cells #[.int .i64 m.day, .int .i64 m.vlo, .int .i64 m.vhi, .int .i64 m.slo, .int .i64 m.shi] 44 (0, 0)) := by rw [← hW2]; exact alloc_at (by simp [gw_size])
                      have ZmW2 := Lib.hid zmW2; clear zmW2
                      have HBW2 := Lib.hid (thru hbW2 HBV.out)
                      have SBW2 := Lib.hid hbW2; clear hbW2
                      have HWW2 := Lib.hid hW2; clear hW2
                      rw [HWW2.out]
                      have S2 := Lib.hid (SV.out.trans (SBW2.out.mono SV.out.size))
                      go_wp2_with fail
                      refine (Calls.grown (alive_any _)).mono ?_
                      rintro e w1 ⟨rfl, z9, rfl⟩
                      go_wp2_with fail
                      go_ret
                      exact ⟨rfl, HBW2.out.gw z9⟩
                    | some p =>
                      obtain ⟨a, t⟩ := p
                      have TR := LT a t rfl
                      obtain ⟨_, ⟨y0, y1, y2⟩, y3, y4, y5⟩ := contB_t DO.1
                      obtain ⟨t0, t1, t2, t3⟩ := TR
                      have ab : (0 ≤ a ∧ a ≤ 2147483648) ∧ (0 ≤ t ∧ t ≤ 2147483648) := by omega
                      obtain ⟨⟨a0, a1⟩, b0, b1⟩ := ab
                      have TR := Lib.hid (LT a t rfl)
                      clear LT t0 t1 t2 t3 y0 y1 y2 y3 y4 y5
                      simp only [liveO] at LV
                      have LV' := Lib.hid LV; clear LV
                      have AR' := Lib.hid (fun W => around_any day a t off W a0 a1 b0 (by omega) o0 o1)
                      cases hb : aroundB a t off with
                      | false =>
                        rw [hb] at AR'
                        generalize aroundO day a t off = m at *
                        unfold Reg.val at AR'
                        go_wp2_with fail
                        refine wp_region_gw2 (by kernel_rfl) (by kernel_rfl) ?_
                        repeat (go_big_quiet_step (first | (go_at_call 20; first | (with_reducible exact Calls.gw_of (I1'.out _)) | (with_reducible exact Calls.gw_of (I2'.out _))) | (go_at_call 28; with_reducible exact Calls.gw_of (LV'.out _ (SV.out.trans ((below_gw V _).mono SV.out.size))))))
                        refine wpQuiet_nil ?_
                        rintro _ ⟨z7, rfl⟩
                        clear U1 U2 s0V
                        go_wp2_with fail
                        refine (Calls.gw_of (AR'.out _)).mono ?_
                        rintro e w1 ⟨rfl, z8, rfl⟩
                        go_upto_region 5 with (fail)
                        obtain ⟨W2, hW2⟩ : ∃ W2, ((gw V z8)).alloc (.cells #[.int .i64 m.day, .int .i64 m.vlo, .int .i64 m.vhi, .int .i64 m.slo, .int .i64 m.shi] 44) = W2 := ⟨_, rfl⟩
                        have hbW2 : Below V.heap.size V W2 := by rw [← hW2]; exact (below_gw V z8).alloc (by simp [gw_size]) _
                        have ZcW2 := Lib.hid ((hbW2.block _ (Array.getElem?_eq_some_iff.1 ZV0.out).1).trans ZV0.out)
                        have ZxW2 := Lib.hid ((hbW2.block _ (Array.getElem?_eq_some_iff.1 ZV1.out).1).trans ZV1.out)
                        have zmW2 : W2.heap[V.heap.size + z8.bs.size]? = some (.cells #[.int .i64 m.day, .int .i64 m.vlo, .int .i64 m.vhi, .int .i64 m.slo, .int .i64 m.shi] 44 (0, 0)) := by rw [← hW2]; exact alloc_at (by simp [gw_size])
                        have ZmW2 := Lib.hid zmW2; clear zmW2
                        have HBW2 := Lib.hid (thru hbW2 HBV.out)
                        have SBW2 := Lib.hid hbW2; clear hbW2
                        have HWW2 := Lib.hid hW2; clear hW2
                        rw [HWW2.out]
                        have S2 := Lib.hid (SV.out.trans (SBW2.out.mono SV.out.size))
                        go_wp2_with fail
                        refine (Calls.grown (alive_any _)).mono ?_
                        rintro e w1 ⟨rfl, z9, rfl⟩
                        go_wp2_with fail
                        go_ret
                        exact ⟨rfl, HBW2.out.gw z9⟩
                      | true =>
                        rw [hb] at AR'
                        obtain ⟨f1, f2, f3, f4, f5⟩ := found_sound HE.out dd o0 a0 b0 hb TR.out DO.1
                        have ME := HME.out (aroundO day a t off)
                        have SH := HSH.out (aroundO day a t off)
                        rw [f2] at ME
                        rw [f3, f1] at SH
                        rw [show (dayC C F G k x (day - x.day).toNat).day = day by have := DO.2; omega] at f5
                        clear f1 f2 f3
                        generalize measV C x k F G (aroundO day a t off) = v at *
                        generalize aroundO day a t off = m at *
                        unfold Reg.val at AR' ME SH
                        unfold Cont.val at ME SH
                        have ME' := Lib.hid ME; clear ME
                        have SH' := Lib.hid SH; clear SH
                        obtain ⟨v0, v1, v2, v3⟩ := f4
                        have vd : (v.day != day) = false := by simp [f5]
                        clear f5
                        have q0 := Int.emod_nonneg tk (show (1001 : Int) ≠ 0 by omega)
                        have q1 := Int.emod_lt_of_pos tk (show (0 : Int) < 1001 by omega)
                        have m1 := mul_le a0 a1 q0 (show tk % 1001 ≤ 1000 by omega)
                        have m2 := mul_le b0 b1 q0 (show tk % 1001 ≤ 1000 by omega)
                        obtain ⟨m11, m12⟩ := m1
                        obtain ⟨m21, m22⟩ := m2
                        by_cases p1 : a * (tk % 1001) % 1000 = 0
                        · by_cases p2 : t * (tk % 1001) % 1000 = 0
                          · obtain ⟨⟨w0, w1⟩, ⟨w2, w3⟩, w4⟩ := part_of a0 b0 q0 (show tk % 1001 ≤ 1000 by omega) p1 p2
                            have e1k : (a * (tk % 1001) % 1000 != 0) = false := by simp [p1]
                            have e2k : (t * (tk % 1001) % 1000 != 0) = false := by simp [p2]
                            have AL' := Lib.hid (fun W => around_any day (a * (tk % 1001) / 1000) (t * (tk % 1001) / 1000) off W w0 (by omega) w2 (by omega) o0 o1)
                            have AW' := Lib.hid (fun W => around_any day (a * (tk % 1001) / 1000) (t * (tk % 1001) / 1000 + ad) off W w0 (by omega) (by omega) (by omega) o0 o1)
                            have FL := Lib.hid (fun h => found_less HE.out dd o0 w0 w2 h TR.out DO.1 w1 w4 w3)
                            have FW := Lib.hid (fun h => found_wet HE.out dd o0 w0 (show 0 ≤ t * (tk % 1001) / 1000 + ad by omega) h TR.out DO.1 w1 (by rw [w4]; exact Int.mul_le_mul_of_nonneg_left (by omega) a0))
                            clear w4 p1 p2
                            cases hl : aroundB (a * (tk % 1001) / 1000) (t * (tk % 1001) / 1000) off with
                            | false =>
                              cases hw : aroundB (a * (tk % 1001) / 1000) (t * (tk % 1001) / 1000 + ad) off with
                              | false =>
                                as_aux_lemma =>
                                  rw [hl] at AL'
                                  rw [hw] at AW'
                                  clear FL FW hl hw
                                  generalize aroundO day (a * (tk % 1001) / 1000) (t * (tk % 1001) / 1000) off = l at *
                                  generalize aroundO day (a * (tk % 1001) / 1000) (t * (tk % 1001) / 1000 + ad) off = q at *
                                  unfold Reg.val at AL' AW'
                                  go_wp2_with fail
                                  refine wp_region_gw2 (by kernel_rfl) (by kernel_rfl) ?_
                                  repeat (go_big_quiet_step (first | (go_at_call 20; first | (with_reducible exact Calls.gw_of (I1'.out _)) | (with_reducible exact Calls.gw_of (I2'.out _))) | (go_at_call 28; with_reducible exact Calls.gw_of (LV'.out _ (SV.out.trans ((below_gw V _).mono SV.out.size))))))
                                  refine wpQuiet_nil ?_
                                  rintro _ ⟨z7, rfl⟩
                                  clear U1 U2 s0V
                                  go_wp2_with fail
                                  refine (Calls.gw_of (AR'.out _)).mono ?_
                                  rintro e w1 ⟨rfl, z8, rfl⟩
                                  go_upto_region 5 with (fail)
                                  obtain ⟨W2, hW2⟩ : ∃ W2, ((gw V z8)).alloc (.cells #[.int .i64 m.day, .int .i64 m.vlo, .int .i64 m.vhi, .int .i64 m.slo, .int .i64 m.shi] 44) = W2 := ⟨_, rfl⟩
                                  have hbW2 : Below V.heap.size V W2 := by rw [← hW2]; exact (below_gw V z8).alloc (by simp [gw_size]) _
                                  have ZcW2 := Lib.hid ((hbW2.block _ (Array.getElem?_eq_some_iff.1 ZV0.out).1).trans ZV0.out)
                                  have ZxW2 := Lib.hid ((hbW2.block _ (Array.getElem?_eq_some_iff.1 ZV1.out).1).trans ZV1.out)
                                  have zmW2 : W2.heap[V.heap.size + z8.bs.size]? = some (.cells #[.int .i64 m.day, .int .i64 m.vlo, .int .i64 m.vhi, .int .i64 m.slo, .int .i64 m.shi] 44 (0, 0)) := by rw [← hW2]; exact alloc_at (by simp [gw_size])
                                  have ZmW2 := Lib.hid zmW2; clear zmW2
                                  have HBW2 := Lib.hid (thru hbW2 HBV.out)
                                  have SBW2 := Lib.hid hbW2; clear hbW2
                                  have HWW2 := Lib.hid hW2; clear hW2
                                  rw [HWW2.out]
                                  clear e00 e01 e02 e10 e11 e12 e13 e14
                                  have S2 := Lib.hid (SV.out.trans (SBW2.out.mono SV.out.size))
                                  have ec0W2 : W2.cell? ⟨w.heap.size, 0, none⟩ = some (.int .i64 C.days) := cell_of_block ZcW2.out 0 (by simp)
                                  have ec1W2 : W2.cell? ⟨w.heap.size, 1, none⟩ = some (.slice C.aA C.nA C.cA) := cell_of_block ZcW2.out 1 (by simp)
                                  have ec2W2 : W2.cell? ⟨w.heap.size, 2, none⟩ = some (.slice C.aW C.nW C.cW) := cell_of_block ZcW2.out 2 (by simp)
                                  have lcW2 := (Array.getElem?_eq_some_iff.1 ZcW2.out).1
                                  have ex0W2 : W2.cell? ⟨w.heap.size + 1, 0, none⟩ = some (.int .i64 x.day) := cell_of_block ZxW2.out 0 (by simp)
                                  have ex1W2 : W2.cell? ⟨w.heap.size + 1, 1, none⟩ = some (.int .i64 x.alo) := cell_of_block ZxW2.out 1 (by simp)
                                  have ex2W2 : W2.cell? ⟨w.heap.size + 1, 2, none⟩ = some (.int .i64 x.ahi) := cell_of_block ZxW2.out 2 (by simp)
                                  have ex3W2 : W2.cell? ⟨w.heap.size + 1, 3, none⟩ = some (.int .i64 x.wlo) := cell_of_block ZxW2.out 3 (by simp)
                                  have ex4W2 : W2.cell? ⟨w.heap.size + 1, 4, none⟩ = some (.int .i64 x.whi) := cell_of_block ZxW2.out 4 (by simp)
                                  have lxW2 := (Array.getElem?_eq_some_iff.1 ZxW2.out).1
                                  have em0W2 : W2.cell? ⟨V.heap.size + z8.bs.size, 0, none⟩ = some (.int .i64 m.day) := cell_of_block ZmW2.out 0 (by simp)
                                  have em1W2 : W2.cell? ⟨V.heap.size + z8.bs.size, 1, none⟩ = some (.int .i64 m.vlo) := cell_of_block ZmW2.out 1 (by simp)
                                  have em2W2 : W2.cell? ⟨V.heap.size + z8.bs.size, 2, none⟩ = some (.int .i64 m.vhi) := cell_of_block ZmW2.out 2 (by simp)
                                  have em3W2 : W2.cell? ⟨V.heap.size + z8.bs.size, 3, none⟩ = some (.int .i64 m.slo) := cell_of_block ZmW2.out 3 (by simp)
                                  have em4W2 : W2.cell? ⟨V.heap.size + z8.bs.size, 4, none⟩ = some (.int .i64 m.shi) := cell_of_block ZmW2.out 4 (by simp)
                                  have lmW2 := (Array.getElem?_eq_some_iff.1 ZmW2.out).1
                                  go_wp2_with fail
                                  refine (Calls.grown (ME'.out _ (S2.out))).mono ?_
                                  rintro e w1 ⟨rfl, z9, rfl⟩
                                  go_upto_region 8 with (fail)
                                  obtain ⟨W3, hW3⟩ : ∃ W3, ((gw W2 z9)).alloc (.cells #[.int .i64 v.day, .int .i64 v.alo, .int .i64 v.ahi, .int .i64 v.wlo, .int .i64 v.whi] 28) = W3 := ⟨_, rfl⟩
                                  have hbW3 : Below W2.heap.size W2 W3 := by rw [← hW3]; exact (below_gw W2 z9).alloc (by simp [gw_size]) _
                                  have ZcW3 := Lib.hid ((hbW3.block _ (Array.getElem?_eq_some_iff.1 ZcW2.out).1).trans ZcW2.out)
                                  have ZxW3 := Lib.hid ((hbW3.block _ (Array.getElem?_eq_some_iff.1 ZxW2.out).1).trans ZxW2.out)
                                  have ZmW3 := Lib.hid ((hbW3.block _ (Array.getElem?_eq_some_iff.1 ZmW2.out).1).trans ZmW2.out)
                                  have zvW3 : W3.heap[W2.heap.size + z9.bs.size]? = some (.cells #[.int .i64 v.day, .int .i64 v.alo, .int .i64 v.ahi, .int .i64 v.wlo, .int .i64 v.whi] 28 (0, 0)) := by rw [← hW3]; exact alloc_at (by simp [gw_size])
                                  have ZvW3 := Lib.hid zvW3; clear zvW3
                                  have HBW3 := Lib.hid (thru hbW3 HBW2.out)
                                  have SBW3 := Lib.hid hbW3; clear hbW3
                                  have HWW3 := Lib.hid hW3; clear hW3
                                  rw [HWW3.out]
                                  clear ec0W2 ec1W2 ec2W2 ex0W2 ex1W2 ex2W2 ex3W2 ex4W2 em0W2 em1W2 em2W2 em3W2 em4W2
                                  have S3 := Lib.hid (S2.out.trans (SBW3.out.mono S2.out.size))
                                  have ec0W3 : W3.cell? ⟨w.heap.size, 0, none⟩ = some (.int .i64 C.days) := cell_of_block ZcW3.out 0 (by simp)
                                  have ec1W3 : W3.cell? ⟨w.heap.size, 1, none⟩ = some (.slice C.aA C.nA C.cA) := cell_of_block ZcW3.out 1 (by simp)
                                  have ec2W3 : W3.cell? ⟨w.heap.size, 2, none⟩ = some (.slice C.aW C.nW C.cW) := cell_of_block ZcW3.out 2 (by simp)
                                  have lcW3 := (Array.getElem?_eq_some_iff.1 ZcW3.out).1
                                  have ex0W3 : W3.cell? ⟨w.heap.size + 1, 0, none⟩ = some (.int .i64 x.day) := cell_of_block ZxW3.out 0 (by simp)
                                  have ex1W3 : W3.cell? ⟨w.heap.size + 1, 1, none⟩ = some (.int .i64 x.alo) := cell_of_block ZxW3.out 1 (by simp)
                                  have ex2W3 : W3.cell? ⟨w.heap.size + 1, 2, none⟩ = some (.int .i64 x.ahi) := cell_of_block ZxW3.out 2 (by simp)
                                  have ex3W3 : W3.cell? ⟨w.heap.size + 1, 3, none⟩ = some (.int .i64 x.wlo) := cell_of_block ZxW3.out 3 (by simp)
                                  have ex4W3 : W3.cell? ⟨w.heap.size + 1, 4, none⟩ = some (.int .i64 x.whi) := cell_of_block ZxW3.out 4 (by simp)
                                  have lxW3 := (Array.getElem?_eq_some_iff.1 ZxW3.out).1
                                  have em0W3 : W3.cell? ⟨V.heap.size + z8.bs.size, 0, none⟩ = some (.int .i64 m.day) := cell_of_block ZmW3.out 0 (by simp)
                                  have em1W3 : W3.cell? ⟨V.heap.size + z8.bs.size, 1, none⟩ = some (.int .i64 m.vlo) := cell_of_block ZmW3.out 1 (by simp)
                                  have em2W3 : W3.cell? ⟨V.heap.size + z8.bs.size, 2, none⟩ = some (.int .i64 m.vhi) := cell_of_block ZmW3.out 2 (by simp)
                                  have em3W3 : W3.cell? ⟨V.heap.size + z8.bs.size, 3, none⟩ = some (.int .i64 m.slo) := cell_of_block ZmW3.out 3 (by simp)
                                  have em4W3 : W3.cell? ⟨V.heap.size + z8.bs.size, 4, none⟩ = some (.int .i64 m.shi) := cell_of_block ZmW3.out 4 (by simp)
                                  have lmW3 := (Array.getElem?_eq_some_iff.1 ZmW3.out).1
                                  have ev0W3 : W3.cell? ⟨W2.heap.size + z9.bs.size, 0, none⟩ = some (.int .i64 v.day) := cell_of_block ZvW3.out 0 (by simp)
                                  have ev1W3 : W3.cell? ⟨W2.heap.size + z9.bs.size, 1, none⟩ = some (.int .i64 v.alo) := cell_of_block ZvW3.out 1 (by simp)
                                  have ev2W3 : W3.cell? ⟨W2.heap.size + z9.bs.size, 2, none⟩ = some (.int .i64 v.ahi) := cell_of_block ZvW3.out 2 (by simp)
                                  have ev3W3 : W3.cell? ⟨W2.heap.size + z9.bs.size, 3, none⟩ = some (.int .i64 v.wlo) := cell_of_block ZvW3.out 3 (by simp)
                                  have ev4W3 : W3.cell? ⟨W2.heap.size + z9.bs.size, 4, none⟩ = some (.int .i64 v.whi) := cell_of_block ZvW3.out 4 (by simp)
                                  have lvW3 := (Array.getElem?_eq_some_iff.1 ZvW3.out).1
                                  go_wp2_with fail
                                  refine (Calls.grown (SH'.out _ (S3.out))).mono ?_
                                  rintro e w1 ⟨rfl, z10, rfl⟩
                                  go_wp2_with fail
                                  refine (Calls.gw_of (has_true _ _ _ _ (by assumption) (by assumption))).mono ?_
                                  rintro e w1 ⟨rfl, z11, rfl⟩
                                  go_wp2_with fail
                                  refine (Calls.gw_of (has_true _ _ _ _ (by assumption) (by assumption))).mono ?_
                                  rintro e w1 ⟨rfl, z12, rfl⟩
                                  go_upto_region 11 with (fail)
                                  obtain ⟨W4, hW4⟩ : ∃ W4, gw W3 z12 = W4 := ⟨_, rfl⟩
                                  have hbW4 : Below W3.heap.size W3 W4 := by rw [← hW4]; exact below_gw W3 z12
                                  have ZcW4 := Lib.hid ((hbW4.block _ (Array.getElem?_eq_some_iff.1 ZcW3.out).1).trans ZcW3.out)
                                  have ZxW4 := Lib.hid ((hbW4.block _ (Array.getElem?_eq_some_iff.1 ZxW3.out).1).trans ZxW3.out)
                                  have ZmW4 := Lib.hid ((hbW4.block _ (Array.getElem?_eq_some_iff.1 ZmW3.out).1).trans ZmW3.out)
                                  have ZvW4 := Lib.hid ((hbW4.block _ (Array.getElem?_eq_some_iff.1 ZvW3.out).1).trans ZvW3.out)
                                  have HBW4 := Lib.hid (thru hbW4 HBW3.out)
                                  have SBW4 := Lib.hid hbW4; clear hbW4
                                  have HWW4 := Lib.hid hW4; clear hW4
                                  rw [HWW4.out]
                                  clear ec0W3 ec1W3 ec2W3 ex0W3 ex1W3 ex2W3 ex3W3 ex4W3 em0W3 em1W3 em2W3 em3W3 em4W3 ev0W3 ev1W3 ev2W3 ev3W3 ev4W3
                                  have S4 := Lib.hid (S3.out.trans (SBW4.out.mono S3.out.size))
                                  have ec0W4 : W4.cell? ⟨w.heap.size, 0, none⟩ = some (.int .i64 C.days) := cell_of_block ZcW4.out 0 (by simp)
                                  have ec1W4 : W4.cell? ⟨w.heap.size, 1, none⟩ = some (.slice C.aA C.nA C.cA) := cell_of_block ZcW4.out 1 (by simp)
                                  have ec2W4 : W4.cell? ⟨w.heap.size, 2, none⟩ = some (.slice C.aW C.nW C.cW) := cell_of_block ZcW4.out 2 (by simp)
                                  have lcW4 := (Array.getElem?_eq_some_iff.1 ZcW4.out).1
                                  have ex0W4 : W4.cell? ⟨w.heap.size + 1, 0, none⟩ = some (.int .i64 x.day) := cell_of_block ZxW4.out 0 (by simp)
                                  have ex1W4 : W4.cell? ⟨w.heap.size + 1, 1, none⟩ = some (.int .i64 x.alo) := cell_of_block ZxW4.out 1 (by simp)
                                  have ex2W4 : W4.cell? ⟨w.heap.size + 1, 2, none⟩ = some (.int .i64 x.ahi) := cell_of_block ZxW4.out 2 (by simp)
                                  have ex3W4 : W4.cell? ⟨w.heap.size + 1, 3, none⟩ = some (.int .i64 x.wlo) := cell_of_block ZxW4.out 3 (by simp)
                                  have ex4W4 : W4.cell? ⟨w.heap.size + 1, 4, none⟩ = some (.int .i64 x.whi) := cell_of_block ZxW4.out 4 (by simp)
                                  have lxW4 := (Array.getElem?_eq_some_iff.1 ZxW4.out).1
                                  go_wp2_with fail
                                  refine (Calls.grown (AL'.out _)).mono ?_
                                  rintro e w1 ⟨rfl, z13, rfl⟩
                                  go_upto_region 15 with (fail)
                                  obtain ⟨W5, hW5⟩ : ∃ W5, ((gw W4 z13)).alloc (.cells #[.int .i64 l.day, .int .i64 l.vlo, .int .i64 l.vhi, .int .i64 l.slo, .int .i64 l.shi] 44) = W5 := ⟨_, rfl⟩
                                  have hbW5 : Below W4.heap.size W4 W5 := by rw [← hW5]; exact (below_gw W4 z13).alloc (by simp [gw_size]) _
                                  have ZcW5 := Lib.hid ((hbW5.block _ (Array.getElem?_eq_some_iff.1 ZcW4.out).1).trans ZcW4.out)
                                  have ZxW5 := Lib.hid ((hbW5.block _ (Array.getElem?_eq_some_iff.1 ZxW4.out).1).trans ZxW4.out)
                                  have ZmW5 := Lib.hid ((hbW5.block _ (Array.getElem?_eq_some_iff.1 ZmW4.out).1).trans ZmW4.out)
                                  have ZvW5 := Lib.hid ((hbW5.block _ (Array.getElem?_eq_some_iff.1 ZvW4.out).1).trans ZvW4.out)
                                  have zlW5 : W5.heap[W4.heap.size + z13.bs.size]? = some (.cells #[.int .i64 l.day, .int .i64 l.vlo, .int .i64 l.vhi, .int .i64 l.slo, .int .i64 l.shi] 44 (0, 0)) := by rw [← hW5]; exact alloc_at (by simp [gw_size])
                                  have ZlW5 := Lib.hid zlW5; clear zlW5
                                  have HBW5 := Lib.hid (thru hbW5 HBW4.out)
                                  have SBW5 := Lib.hid hbW5; clear hbW5
                                  have HWW5 := Lib.hid hW5; clear hW5
                                  rw [HWW5.out]
                                  clear ec0W4 ec1W4 ec2W4 ex0W4 ex1W4 ex2W4 ex3W4 ex4W4
                                  have S5 := Lib.hid (S4.out.trans (SBW5.out.mono S4.out.size))
                                  have ec0W5 : W5.cell? ⟨w.heap.size, 0, none⟩ = some (.int .i64 C.days) := cell_of_block ZcW5.out 0 (by simp)
                                  have ec1W5 : W5.cell? ⟨w.heap.size, 1, none⟩ = some (.slice C.aA C.nA C.cA) := cell_of_block ZcW5.out 1 (by simp)
                                  have ec2W5 : W5.cell? ⟨w.heap.size, 2, none⟩ = some (.slice C.aW C.nW C.cW) := cell_of_block ZcW5.out 2 (by simp)
                                  have lcW5 := (Array.getElem?_eq_some_iff.1 ZcW5.out).1
                                  have ex0W5 : W5.cell? ⟨w.heap.size + 1, 0, none⟩ = some (.int .i64 x.day) := cell_of_block ZxW5.out 0 (by simp)
                                  have ex1W5 : W5.cell? ⟨w.heap.size + 1, 1, none⟩ = some (.int .i64 x.alo) := cell_of_block ZxW5.out 1 (by simp)
                                  have ex2W5 : W5.cell? ⟨w.heap.size + 1, 2, none⟩ = some (.int .i64 x.ahi) := cell_of_block ZxW5.out 2 (by simp)
                                  have ex3W5 : W5.cell? ⟨w.heap.size + 1, 3, none⟩ = some (.int .i64 x.wlo) := cell_of_block ZxW5.out 3 (by simp)
                                  have ex4W5 : W5.cell? ⟨w.heap.size + 1, 4, none⟩ = some (.int .i64 x.whi) := cell_of_block ZxW5.out 4 (by simp)
                                  have lxW5 := (Array.getElem?_eq_some_iff.1 ZxW5.out).1
                                  have el0W5 : W5.cell? ⟨W4.heap.size + z13.bs.size, 0, none⟩ = some (.int .i64 l.day) := cell_of_block ZlW5.out 0 (by simp)
                                  have el1W5 : W5.cell? ⟨W4.heap.size + z13.bs.size, 1, none⟩ = some (.int .i64 l.vlo) := cell_of_block ZlW5.out 1 (by simp)
                                  have el2W5 : W5.cell? ⟨W4.heap.size + z13.bs.size, 2, none⟩ = some (.int .i64 l.vhi) := cell_of_block ZlW5.out 2 (by simp)
                                  have el3W5 : W5.cell? ⟨W4.heap.size + z13.bs.size, 3, none⟩ = some (.int .i64 l.slo) := cell_of_block ZlW5.out 3 (by simp)
                                  have el4W5 : W5.cell? ⟨W4.heap.size + z13.bs.size, 4, none⟩ = some (.int .i64 l.shi) := cell_of_block ZlW5.out 4 (by simp)
                                  have llW5 := (Array.getElem?_eq_some_iff.1 ZlW5.out).1
                                  go_wp2_with fail
                                  refine (Calls.grown (AW'.out _)).mono ?_
                                  rintro e w1 ⟨rfl, z14, rfl⟩
                                  go_upto_region 20 with (fail)
                                  obtain ⟨W6, hW6⟩ : ∃ W6, ((gw W5 z14)).alloc (.cells #[.int .i64 q.day, .int .i64 q.vlo, .int .i64 q.vhi, .int .i64 q.slo, .int .i64 q.shi] 44) = W6 := ⟨_, rfl⟩
                                  have hbW6 : Below W5.heap.size W5 W6 := by rw [← hW6]; exact (below_gw W5 z14).alloc (by simp [gw_size]) _
                                  have ZcW6 := Lib.hid ((hbW6.block _ (Array.getElem?_eq_some_iff.1 ZcW5.out).1).trans ZcW5.out)
                                  have ZxW6 := Lib.hid ((hbW6.block _ (Array.getElem?_eq_some_iff.1 ZxW5.out).1).trans ZxW5.out)
                                  have ZmW6 := Lib.hid ((hbW6.block _ (Array.getElem?_eq_some_iff.1 ZmW5.out).1).trans ZmW5.out)
                                  have ZvW6 := Lib.hid ((hbW6.block _ (Array.getElem?_eq_some_iff.1 ZvW5.out).1).trans ZvW5.out)
                                  have ZlW6 := Lib.hid ((hbW6.block _ (Array.getElem?_eq_some_iff.1 ZlW5.out).1).trans ZlW5.out)
                                  have zqW6 : W6.heap[W5.heap.size + z14.bs.size]? = some (.cells #[.int .i64 q.day, .int .i64 q.vlo, .int .i64 q.vhi, .int .i64 q.slo, .int .i64 q.shi] 44 (0, 0)) := by rw [← hW6]; exact alloc_at (by simp [gw_size])
                                  have ZqW6 := Lib.hid zqW6; clear zqW6
                                  have HBW6 := Lib.hid (thru hbW6 HBW5.out)
                                  have SBW6 := Lib.hid hbW6; clear hbW6
                                  have HWW6 := Lib.hid hW6; clear hW6
                                  rw [HWW6.out]
                                  clear ec0W5 ec1W5 ec2W5 ex0W5 ex1W5 ex2W5 ex3W5 ex4W5 el0W5 el1W5 el2W5 el3W5 el4W5
                                  have S6 := Lib.hid (S5.out.trans (SBW6.out.mono S5.out.size))
                                  have ec0W6 : W6.cell? ⟨w.heap.size, 0, none⟩ = some (.int .i64 C.days) := cell_of_block ZcW6.out 0 (by simp)
                                  have ec1W6 : W6.cell? ⟨w.heap.size, 1, none⟩ = some (.slice C.aA C.nA C.cA) := cell_of_block ZcW6.out 1 (by simp)
                                  have ec2W6 : W6.cell? ⟨w.heap.size, 2, none⟩ = some (.slice C.aW C.nW C.cW) := cell_of_block ZcW6.out 2 (by simp)
                                  have lcW6 := (Array.getElem?_eq_some_iff.1 ZcW6.out).1
                                  have ex0W6 : W6.cell? ⟨w.heap.size + 1, 0, none⟩ = some (.int .i64 x.day) := cell_of_block ZxW6.out 0 (by simp)
                                  have ex1W6 : W6.cell? ⟨w.heap.size + 1, 1, none⟩ = some (.int .i64 x.alo) := cell_of_block ZxW6.out 1 (by simp)
                                  have ex2W6 : W6.cell? ⟨w.heap.size + 1, 2, none⟩ = some (.int .i64 x.ahi) := cell_of_block ZxW6.out 2 (by simp)
                                  have ex3W6 : W6.cell? ⟨w.heap.size + 1, 3, none⟩ = some (.int .i64 x.wlo) := cell_of_block ZxW6.out 3 (by simp)
                                  have ex4W6 : W6.cell? ⟨w.heap.size + 1, 4, none⟩ = some (.int .i64 x.whi) := cell_of_block ZxW6.out 4 (by simp)
                                  have lxW6 := (Array.getElem?_eq_some_iff.1 ZxW6.out).1
                                  have eq0W6 : W6.cell? ⟨W5.heap.size + z14.bs.size, 0, none⟩ = some (.int .i64 q.day) := cell_of_block ZqW6.out 0 (by simp)
                                  have eq1W6 : W6.cell? ⟨W5.heap.size + z14.bs.size, 1, none⟩ = some (.int .i64 q.vlo) := cell_of_block ZqW6.out 1 (by simp)
                                  have eq2W6 : W6.cell? ⟨W5.heap.size + z14.bs.size, 2, none⟩ = some (.int .i64 q.vhi) := cell_of_block ZqW6.out 2 (by simp)
                                  have eq3W6 : W6.cell? ⟨W5.heap.size + z14.bs.size, 3, none⟩ = some (.int .i64 q.slo) := cell_of_block ZqW6.out 3 (by simp)
                                  have eq4W6 : W6.cell? ⟨W5.heap.size + z14.bs.size, 4, none⟩ = some (.int .i64 q.shi) := cell_of_block ZqW6.out 4 (by simp)
                                  have lqW6 := (Array.getElem?_eq_some_iff.1 ZqW6.out).1
                                  go_wp2_with fail
                                  refine (Calls.grown (alive_any _)).mono ?_
                                  rintro e w1 ⟨rfl, z15, rfl⟩
                                  go_wp2_with fail
                                  go_ret
                                  exact ⟨rfl, HBW6.out.gw z15⟩
                              | true =>
                                as_aux_lemma =>
                                  rw [hl] at AL'
                                  rw [hw] at AW'
                                  have SW := HSH.out (aroundO day (a * (tk % 1001) / 1000) (t * (tk % 1001) / 1000 + ad) off)
                                  obtain ⟨h1, h3⟩ := FW.out hw
                                  rw [h1] at SW
                                  clear h1
                                  generalize showV C x k F G (aroundO day (a * (tk % 1001) / 1000) (t * (tk % 1001) / 1000 + ad) off) = nw at *
                                  have nw3 : (nw != 3) = true := by simpa using h3
                                  clear h3
                                  clear FL FW hl hw
                                  generalize aroundO day (a * (tk % 1001) / 1000) (t * (tk % 1001) / 1000) off = l at *
                                  generalize aroundO day (a * (tk % 1001) / 1000) (t * (tk % 1001) / 1000 + ad) off = q at *
                                  unfold Reg.val at AL' AW'
                                  unfold Reg.val Cont.val at SW
                                  have SW' := Lib.hid SW; clear SW
                                  go_wp2_with fail
                                  refine wp_region_gw2 (by kernel_rfl) (by kernel_rfl) ?_
                                  repeat (go_big_quiet_step (first | (go_at_call 20; first | (with_reducible exact Calls.gw_of (I1'.out _)) | (with_reducible exact Calls.gw_of (I2'.out _))) | (go_at_call 28; with_reducible exact Calls.gw_of (LV'.out _ (SV.out.trans ((below_gw V _).mono SV.out.size))))))
                                  refine wpQuiet_nil ?_
                                  rintro _ ⟨z7, rfl⟩
                                  clear U1 U2 s0V
                                  go_wp2_with fail
                                  refine (Calls.gw_of (AR'.out _)).mono ?_
                                  rintro e w1 ⟨rfl, z8, rfl⟩
                                  go_upto_region 5 with (fail)
                                  obtain ⟨W2, hW2⟩ : ∃ W2, ((gw V z8)).alloc (.cells #[.int .i64 m.day, .int .i64 m.vlo, .int .i64 m.vhi, .int .i64 m.slo, .int .i64 m.shi] 44) = W2 := ⟨_, rfl⟩
                                  have hbW2 : Below V.heap.size V W2 := by rw [← hW2]; exact (below_gw V z8).alloc (by simp [gw_size]) _
                                  have ZcW2 := Lib.hid ((hbW2.block _ (Array.getElem?_eq_some_iff.1 ZV0.out).1).trans ZV0.out)
                                  have ZxW2 := Lib.hid ((hbW2.block _ (Array.getElem?_eq_some_iff.1 ZV1.out).1).trans ZV1.out)
                                  have zmW2 : W2.heap[V.heap.size + z8.bs.size]? = some (.cells #[.int .i64 m.day, .int .i64 m.vlo, .int .i64 m.vhi, .int .i64 m.slo, .int .i64 m.shi] 44 (0, 0)) := by rw [← hW2]; exact alloc_at (by simp [gw_size])
                                  have ZmW2 := Lib.hid zmW2; clear zmW2
                                  have HBW2 := Lib.hid (thru hbW2 HBV.out)
                                  have SBW2 := Lib.hid hbW2; clear hbW2
                                  have HWW2 := Lib.hid hW2; clear hW2
                                  rw [HWW2.out]
                                  clear e00 e01 e02 e10 e11 e12 e13 e14
                                  have S2 := Lib.hid (SV.out.trans (SBW2.out.mono SV.out.size))
                                  have ec0W2 : W2.cell? ⟨w.heap.size, 0, none⟩ = some (.int .i64 C.days) := cell_of_block ZcW2.out 0 (by simp)
                                  have ec1W2 : W2.cell? ⟨w.heap.size, 1, none⟩ = some (.slice C.aA C.nA C.cA) := cell_of_block ZcW2.out 1 (by simp)
                                  have ec2W2 : W2.cell? ⟨w.heap.size, 2, none⟩ = some (.slice C.aW C.nW C.cW) := cell_of_block ZcW2.out 2 (by simp)
                                  have lcW2 := (Array.getElem?_eq_some_iff.1 ZcW2.out).1
                                  have ex0W2 : W2.cell? ⟨w.heap.size + 1, 0, none⟩ = some (.int .i64 x.day) := cell_of_block ZxW2.out 0 (by simp)
                                  have ex1W2 : W2.cell? ⟨w.heap.size + 1, 1, none⟩ = some (.int .i64 x.alo) := cell_of_block ZxW2.out 1 (by simp)
                                  have ex2W2 : W2.cell? ⟨w.heap.size + 1, 2, none⟩ = some (.int .i64 x.ahi) := cell_of_block ZxW2.out 2 (by simp)
                                  have ex3W2 : W2.cell? ⟨w.heap.size + 1, 3, none⟩ = some (.int .i64 x.wlo) := cell_of_block ZxW2.out 3 (by simp)
                                  have ex4W2 : W2.cell? ⟨w.heap.size + 1, 4, none⟩ = some (.int .i64 x.whi) := cell_of_block ZxW2.out 4 (by simp)
                                  have lxW2 := (Array.getElem?_eq_some_iff.1 ZxW2.out).1
                                  have em0W2 : W2.cell? ⟨V.heap.size + z8.bs.size, 0, none⟩ = some (.int .i64 m.day) := cell_of_block ZmW2.out 0 (by simp)
                                  have em1W2 : W2.cell? ⟨V.heap.size + z8.bs.size, 1, none⟩ = some (.int .i64 m.vlo) := cell_of_block ZmW2.out 1 (by simp)
                                  have em2W2 : W2.cell? ⟨V.heap.size + z8.bs.size, 2, none⟩ = some (.int .i64 m.vhi) := cell_of_block ZmW2.out 2 (by simp)
                                  have em3W2 : W2.cell? ⟨V.heap.size + z8.bs.size, 3, none⟩ = some (.int .i64 m.slo) := cell_of_block ZmW2.out 3 (by simp)
                                  have em4W2 : W2.cell? ⟨V.heap.size + z8.bs.size, 4, none⟩ = some (.int .i64 m.shi) := cell_of_block ZmW2.out 4 (by simp)
                                  have lmW2 := (Array.getElem?_eq_some_iff.1 ZmW2.out).1
                                  go_wp2_with fail
                                  refine (Calls.grown (ME'.out _ (S2.out))).mono ?_
                                  rintro e w1 ⟨rfl, z9, rfl⟩
                                  go_upto_region 8 with (fail)
                                  obtain ⟨W3, hW3⟩ : ∃ W3, ((gw W2 z9)).alloc (.cells #[.int .i64 v.day, .int .i64 v.alo, .int .i64 v.ahi, .int .i64 v.wlo, .int .i64 v.whi] 28) = W3 := ⟨_, rfl⟩
                                  have hbW3 : Below W2.heap.size W2 W3 := by rw [← hW3]; exact (below_gw W2 z9).alloc (by simp [gw_size]) _
                                  have ZcW3 := Lib.hid ((hbW3.block _ (Array.getElem?_eq_some_iff.1 ZcW2.out).1).trans ZcW2.out)
                                  have ZxW3 := Lib.hid ((hbW3.block _ (Array.getElem?_eq_some_iff.1 ZxW2.out).1).trans ZxW2.out)
                                  have ZmW3 := Lib.hid ((hbW3.block _ (Array.getElem?_eq_some_iff.1 ZmW2.out).1).trans ZmW2.out)
                                  have zvW3 : W3.heap[W2.heap.size + z9.bs.size]? = some (.cells #[.int .i64 v.day, .int .i64 v.alo, .int .i64 v.ahi, .int .i64 v.wlo, .int .i64 v.whi] 28 (0, 0)) := by rw [← hW3]; exact alloc_at (by simp [gw_size])
                                  have ZvW3 := Lib.hid zvW3; clear zvW3
                                  have HBW3 := Lib.hid (thru hbW3 HBW2.out)
                                  have SBW3 := Lib.hid hbW3; clear hbW3
                                  have HWW3 := Lib.hid hW3; clear hW3
                                  rw [HWW3.out]
                                  clear ec0W2 ec1W2 ec2W2 ex0W2 ex1W2 ex2W2 ex3W2 ex4W2 em0W2 em1W2 em2W2 em3W2 em4W2
                                  have S3 := Lib.hid (S2.out.trans (SBW3.out.mono S2.out.size))
                                  have ec0W3 : W3.cell? ⟨w.heap.size, 0, none⟩ = some (.int .i64 C.days) := cell_of_block ZcW3.out 0 (by simp)
                                  have ec1W3 : W3.cell? ⟨w.heap.size, 1, none⟩ = some (.slice C.aA C.nA C.cA) := cell_of_block ZcW3.out 1 (by simp)
                                  have ec2W3 : W3.cell? ⟨w.heap.size, 2, none⟩ = some (.slice C.aW C.nW C.cW) := cell_of_block ZcW3.out 2 (by simp)
                                  have lcW3 := (Array.getElem?_eq_some_iff.1 ZcW3.out).1
                                  have ex0W3 : W3.cell? ⟨w.heap.size + 1, 0, none⟩ = some (.int .i64 x.day) := cell_of_block ZxW3.out 0 (by simp)
                                  have ex1W3 : W3.cell? ⟨w.heap.size + 1, 1, none⟩ = some (.int .i64 x.alo) := cell_of_block ZxW3.out 1 (by simp)
                                  have ex2W3 : W3.cell? ⟨w.heap.size + 1, 2, none⟩ = some (.int .i64 x.ahi) := cell_of_block ZxW3.out 2 (by simp)
                                  have ex3W3 : W3.cell? ⟨w.heap.size + 1, 3, none⟩ = some (.int .i64 x.wlo) := cell_of_block ZxW3.out 3 (by simp)
                                  have ex4W3 : W3.cell? ⟨w.heap.size + 1, 4, none⟩ = some (.int .i64 x.whi) := cell_of_block ZxW3.out 4 (by simp)
                                  have lxW3 := (Array.getElem?_eq_some_iff.1 ZxW3.out).1
                                  have em0W3 : W3.cell? ⟨V.heap.size + z8.bs.size, 0, none⟩ = some (.int .i64 m.day) := cell_of_block ZmW3.out 0 (by simp)
                                  have em1W3 : W3.cell? ⟨V.heap.size + z8.bs.size, 1, none⟩ = some (.int .i64 m.vlo) := cell_of_block ZmW3.out 1 (by simp)
                                  have em2W3 : W3.cell? ⟨V.heap.size + z8.bs.size, 2, none⟩ = some (.int .i64 m.vhi) := cell_of_block ZmW3.out 2 (by simp)
                                  have em3W3 : W3.cell? ⟨V.heap.size + z8.bs.size, 3, none⟩ = some (.int .i64 m.slo) := cell_of_block ZmW3.out 3 (by simp)
                                  have em4W3 : W3.cell? ⟨V.heap.size + z8.bs.size, 4, none⟩ = some (.int .i64 m.shi) := cell_of_block ZmW3.out 4 (by simp)
                                  have lmW3 := (Array.getElem?_eq_some_iff.1 ZmW3.out).1
                                  have ev0W3 : W3.cell? ⟨W2.heap.size + z9.bs.size, 0, none⟩ = some (.int .i64 v.day) := cell_of_block ZvW3.out 0 (by simp)
                                  have ev1W3 : W3.cell? ⟨W2.heap.size + z9.bs.size, 1, none⟩ = some (.int .i64 v.alo) := cell_of_block ZvW3.out 1 (by simp)
                                  have ev2W3 : W3.cell? ⟨W2.heap.size + z9.bs.size, 2, none⟩ = some (.int .i64 v.ahi) := cell_of_block ZvW3.out 2 (by simp)
                                  have ev3W3 : W3.cell? ⟨W2.heap.size + z9.bs.size, 3, none⟩ = some (.int .i64 v.wlo) := cell_of_block ZvW3.out 3 (by simp)
                                  have ev4W3 : W3.cell? ⟨W2.heap.size + z9.bs.size, 4, none⟩ = some (.int .i64 v.whi) := cell_of_block ZvW3.out 4 (by simp)
                                  have lvW3 := (Array.getElem?_eq_some_iff.1 ZvW3.out).1
                                  go_wp2_with fail
                                  refine (Calls.grown (SH'.out _ (S3.out))).mono ?_
                                  rintro e w1 ⟨rfl, z10, rfl⟩
                                  go_wp2_with fail
                                  refine (Calls.gw_of (has_true _ _ _ _ (by assumption) (by assumption))).mono ?_
                                  rintro e w1 ⟨rfl, z11, rfl⟩
                                  go_wp2_with fail
                                  refine (Calls.gw_of (has_true _ _ _ _ (by assumption) (by assumption))).mono ?_
                                  rintro e w1 ⟨rfl, z12, rfl⟩
                                  go_upto_region 11 with (fail)
                                  obtain ⟨W4, hW4⟩ : ∃ W4, gw W3 z12 = W4 := ⟨_, rfl⟩
                                  have hbW4 : Below W3.heap.size W3 W4 := by rw [← hW4]; exact below_gw W3 z12
                                  have ZcW4 := Lib.hid ((hbW4.block _ (Array.getElem?_eq_some_iff.1 ZcW3.out).1).trans ZcW3.out)
                                  have ZxW4 := Lib.hid ((hbW4.block _ (Array.getElem?_eq_some_iff.1 ZxW3.out).1).trans ZxW3.out)
                                  have ZmW4 := Lib.hid ((hbW4.block _ (Array.getElem?_eq_some_iff.1 ZmW3.out).1).trans ZmW3.out)
                                  have ZvW4 := Lib.hid ((hbW4.block _ (Array.getElem?_eq_some_iff.1 ZvW3.out).1).trans ZvW3.out)
                                  have HBW4 := Lib.hid (thru hbW4 HBW3.out)
                                  have SBW4 := Lib.hid hbW4; clear hbW4
                                  have HWW4 := Lib.hid hW4; clear hW4
                                  rw [HWW4.out]
                                  clear ec0W3 ec1W3 ec2W3 ex0W3 ex1W3 ex2W3 ex3W3 ex4W3 em0W3 em1W3 em2W3 em3W3 em4W3 ev0W3 ev1W3 ev2W3 ev3W3 ev4W3
                                  have S4 := Lib.hid (S3.out.trans (SBW4.out.mono S3.out.size))
                                  have ec0W4 : W4.cell? ⟨w.heap.size, 0, none⟩ = some (.int .i64 C.days) := cell_of_block ZcW4.out 0 (by simp)
                                  have ec1W4 : W4.cell? ⟨w.heap.size, 1, none⟩ = some (.slice C.aA C.nA C.cA) := cell_of_block ZcW4.out 1 (by simp)
                                  have ec2W4 : W4.cell? ⟨w.heap.size, 2, none⟩ = some (.slice C.aW C.nW C.cW) := cell_of_block ZcW4.out 2 (by simp)
                                  have lcW4 := (Array.getElem?_eq_some_iff.1 ZcW4.out).1
                                  have ex0W4 : W4.cell? ⟨w.heap.size + 1, 0, none⟩ = some (.int .i64 x.day) := cell_of_block ZxW4.out 0 (by simp)
                                  have ex1W4 : W4.cell? ⟨w.heap.size + 1, 1, none⟩ = some (.int .i64 x.alo) := cell_of_block ZxW4.out 1 (by simp)
                                  have ex2W4 : W4.cell? ⟨w.heap.size + 1, 2, none⟩ = some (.int .i64 x.ahi) := cell_of_block ZxW4.out 2 (by simp)
                                  have ex3W4 : W4.cell? ⟨w.heap.size + 1, 3, none⟩ = some (.int .i64 x.wlo) := cell_of_block ZxW4.out 3 (by simp)
                                  have ex4W4 : W4.cell? ⟨w.heap.size + 1, 4, none⟩ = some (.int .i64 x.whi) := cell_of_block ZxW4.out 4 (by simp)
                                  have lxW4 := (Array.getElem?_eq_some_iff.1 ZxW4.out).1
                                  go_wp2_with fail
                                  refine (Calls.grown (AL'.out _)).mono ?_
                                  rintro e w1 ⟨rfl, z13, rfl⟩
                                  go_upto_region 15 with (fail)
                                  obtain ⟨W5, hW5⟩ : ∃ W5, ((gw W4 z13)).alloc (.cells #[.int .i64 l.day, .int .i64 l.vlo, .int .i64 l.vhi, .int .i64 l.slo, .int .i64 l.shi] 44) = W5 := ⟨_, rfl⟩
                                  have hbW5 : Below W4.heap.size W4 W5 := by rw [← hW5]; exact (below_gw W4 z13).alloc (by simp [gw_size]) _
                                  have ZcW5 := Lib.hid ((hbW5.block _ (Array.getElem?_eq_some_iff.1 ZcW4.out).1).trans ZcW4.out)
                                  have ZxW5 := Lib.hid ((hbW5.block _ (Array.getElem?_eq_some_iff.1 ZxW4.out).1).trans ZxW4.out)
                                  have ZmW5 := Lib.hid ((hbW5.block _ (Array.getElem?_eq_some_iff.1 ZmW4.out).1).trans ZmW4.out)
                                  have ZvW5 := Lib.hid ((hbW5.block _ (Array.getElem?_eq_some_iff.1 ZvW4.out).1).trans ZvW4.out)
                                  have zlW5 : W5.heap[W4.heap.size + z13.bs.size]? = some (.cells #[.int .i64 l.day, .int .i64 l.vlo, .int .i64 l.vhi, .int .i64 l.slo, .int .i64 l.shi] 44 (0, 0)) := by rw [← hW5]; exact alloc_at (by simp [gw_size])
                                  have ZlW5 := Lib.hid zlW5; clear zlW5
                                  have HBW5 := Lib.hid (thru hbW5 HBW4.out)
                                  have SBW5 := Lib.hid hbW5; clear hbW5
                                  have HWW5 := Lib.hid hW5; clear hW5
                                  rw [HWW5.out]
                                  clear ec0W4 ec1W4 ec2W4 ex0W4 ex1W4 ex2W4 ex3W4 ex4W4
                                  have S5 := Lib.hid (S4.out.trans (SBW5.out.mono S4.out.size))
                                  have ec0W5 : W5.cell? ⟨w.heap.size, 0, none⟩ = some (.int .i64 C.days) := cell_of_block ZcW5.out 0 (by simp)
                                  have ec1W5 : W5.cell? ⟨w.heap.size, 1, none⟩ = some (.slice C.aA C.nA C.cA) := cell_of_block ZcW5.out 1 (by simp)
                                  have ec2W5 : W5.cell? ⟨w.heap.size, 2, none⟩ = some (.slice C.aW C.nW C.cW) := cell_of_block ZcW5.out 2 (by simp)
                                  have lcW5 := (Array.getElem?_eq_some_iff.1 ZcW5.out).1
                                  have ex0W5 : W5.cell? ⟨w.heap.size + 1, 0, none⟩ = some (.int .i64 x.day) := cell_of_block ZxW5.out 0 (by simp)
                                  have ex1W5 : W5.cell? ⟨w.heap.size + 1, 1, none⟩ = some (.int .i64 x.alo) := cell_of_block ZxW5.out 1 (by simp)
                                  have ex2W5 : W5.cell? ⟨w.heap.size + 1, 2, none⟩ = some (.int .i64 x.ahi) := cell_of_block ZxW5.out 2 (by simp)
                                  have ex3W5 : W5.cell? ⟨w.heap.size + 1, 3, none⟩ = some (.int .i64 x.wlo) := cell_of_block ZxW5.out 3 (by simp)
                                  have ex4W5 : W5.cell? ⟨w.heap.size + 1, 4, none⟩ = some (.int .i64 x.whi) := cell_of_block ZxW5.out 4 (by simp)
                                  have lxW5 := (Array.getElem?_eq_some_iff.1 ZxW5.out).1
                                  have el0W5 : W5.cell? ⟨W4.heap.size + z13.bs.size, 0, none⟩ = some (.int .i64 l.day) := cell_of_block ZlW5.out 0 (by simp)
                                  have el1W5 : W5.cell? ⟨W4.heap.size + z13.bs.size, 1, none⟩ = some (.int .i64 l.vlo) := cell_of_block ZlW5.out 1 (by simp)
                                  have el2W5 : W5.cell? ⟨W4.heap.size + z13.bs.size, 2, none⟩ = some (.int .i64 l.vhi) := cell_of_block ZlW5.out 2 (by simp)
                                  have el3W5 : W5.cell? ⟨W4.heap.size + z13.bs.size, 3, none⟩ = some (.int .i64 l.slo) := cell_of_block ZlW5.out 3 (by simp)
                                  have el4W5 : W5.cell? ⟨W4.heap.size + z13.bs.size, 4, none⟩ = some (.int .i64 l.shi) := cell_of_block ZlW5.out 4 (by simp)
                                  have llW5 := (Array.getElem?_eq_some_iff.1 ZlW5.out).1
                                  go_wp2_with fail
                                  refine (Calls.grown (AW'.out _)).mono ?_
                                  rintro e w1 ⟨rfl, z14, rfl⟩
                                  go_upto_region 20 with (fail)
                                  obtain ⟨W6, hW6⟩ : ∃ W6, ((gw W5 z14)).alloc (.cells #[.int .i64 q.day, .int .i64 q.vlo, .int .i64 q.vhi, .int .i64 q.slo, .int .i64 q.shi] 44) = W6 := ⟨_, rfl⟩
                                  have hbW6 : Below W5.heap.size W5 W6 := by rw [← hW6]; exact (below_gw W5 z14).alloc (by simp [gw_size]) _
                                  have ZcW6 := Lib.hid ((hbW6.block _ (Array.getElem?_eq_some_iff.1 ZcW5.out).1).trans ZcW5.out)
                                  have ZxW6 := Lib.hid ((hbW6.block _ (Array.getElem?_eq_some_iff.1 ZxW5.out).1).trans ZxW5.out)
                                  have ZmW6 := Lib.hid ((hbW6.block _ (Array.getElem?_eq_some_iff.1 ZmW5.out).1).trans ZmW5.out)
                                  have ZvW6 := Lib.hid ((hbW6.block _ (Array.getElem?_eq_some_iff.1 ZvW5.out).1).trans ZvW5.out)
                                  have ZlW6 := Lib.hid ((hbW6.block _ (Array.getElem?_eq_some_iff.1 ZlW5.out).1).trans ZlW5.out)
                                  have zqW6 : W6.heap[W5.heap.size + z14.bs.size]? = some (.cells #[.int .i64 q.day, .int .i64 q.vlo, .int .i64 q.vhi, .int .i64 q.slo, .int .i64 q.shi] 44 (0, 0)) := by rw [← hW6]; exact alloc_at (by simp [gw_size])
                                  have ZqW6 := Lib.hid zqW6; clear zqW6
                                  have HBW6 := Lib.hid (thru hbW6 HBW5.out)
                                  have SBW6 := Lib.hid hbW6; clear hbW6
                                  have HWW6 := Lib.hid hW6; clear hW6
                                  rw [HWW6.out]
                                  clear ec0W5 ec1W5 ec2W5 ex0W5 ex1W5 ex2W5 ex3W5 ex4W5 el0W5 el1W5 el2W5 el3W5 el4W5
                                  have S6 := Lib.hid (S5.out.trans (SBW6.out.mono S5.out.size))
                                  have ec0W6 : W6.cell? ⟨w.heap.size, 0, none⟩ = some (.int .i64 C.days) := cell_of_block ZcW6.out 0 (by simp)
                                  have ec1W6 : W6.cell? ⟨w.heap.size, 1, none⟩ = some (.slice C.aA C.nA C.cA) := cell_of_block ZcW6.out 1 (by simp)
                                  have ec2W6 : W6.cell? ⟨w.heap.size, 2, none⟩ = some (.slice C.aW C.nW C.cW) := cell_of_block ZcW6.out 2 (by simp)
                                  have lcW6 := (Array.getElem?_eq_some_iff.1 ZcW6.out).1
                                  have ex0W6 : W6.cell? ⟨w.heap.size + 1, 0, none⟩ = some (.int .i64 x.day) := cell_of_block ZxW6.out 0 (by simp)
                                  have ex1W6 : W6.cell? ⟨w.heap.size + 1, 1, none⟩ = some (.int .i64 x.alo) := cell_of_block ZxW6.out 1 (by simp)
                                  have ex2W6 : W6.cell? ⟨w.heap.size + 1, 2, none⟩ = some (.int .i64 x.ahi) := cell_of_block ZxW6.out 2 (by simp)
                                  have ex3W6 : W6.cell? ⟨w.heap.size + 1, 3, none⟩ = some (.int .i64 x.wlo) := cell_of_block ZxW6.out 3 (by simp)
                                  have ex4W6 : W6.cell? ⟨w.heap.size + 1, 4, none⟩ = some (.int .i64 x.whi) := cell_of_block ZxW6.out 4 (by simp)
                                  have lxW6 := (Array.getElem?_eq_some_iff.1 ZxW6.out).1
                                  have eq0W6 : W6.cell? ⟨W5.heap.size + z14.bs.size, 0, none⟩ = some (.int .i64 q.day) := cell_of_block ZqW6.out 0 (by simp)
                                  have eq1W6 : W6.cell? ⟨W5.heap.size + z14.bs.size, 1, none⟩ = some (.int .i64 q.vlo) := cell_of_block ZqW6.out 1 (by simp)
                                  have eq2W6 : W6.cell? ⟨W5.heap.size + z14.bs.size, 2, none⟩ = some (.int .i64 q.vhi) := cell_of_block ZqW6.out 2 (by simp)
                                  have eq3W6 : W6.cell? ⟨W5.heap.size + z14.bs.size, 3, none⟩ = some (.int .i64 q.slo) := cell_of_block ZqW6.out 3 (by simp)
                                  have eq4W6 : W6.cell? ⟨W5.heap.size + z14.bs.size, 4, none⟩ = some (.int .i64 q.shi) := cell_of_block ZqW6.out 4 (by simp)
                                  have lqW6 := (Array.getElem?_eq_some_iff.1 ZqW6.out).1
                                  go_wp2_with fail
                                  refine (Calls.grown (SW'.out _ (S6.out))).mono ?_
                                  rintro e w1 ⟨rfl, z15, rfl⟩
                                  go_wp2_with fail
                                  refine (Calls.gw_of (alive_any _)).mono ?_
                                  rintro e w1 ⟨rfl, z16, rfl⟩
                                  go_wp2_with fail
                                  go_ret
                                  exact ⟨rfl, HBW6.out.gw z16⟩
                            | true =>
                              obtain ⟨f1, f2⟩ := FL.out hl
                              rcases f2 with f2 | f2
                              · cases hw : aroundB (a * (tk % 1001) / 1000) (t * (tk % 1001) / 1000 + ad) off with
                                | false =>
                                  as_aux_lemma =>
                                    rw [hl] at AL'
                                    rw [hw] at AW'
                                    have SL := HSH.out (aroundO day (a * (tk % 1001) / 1000) (t * (tk % 1001) / 1000) off)
                                    rw [f2, f1] at SL
                                    clear f1 f2
                                    clear FL FW hl hw
                                    generalize aroundO day (a * (tk % 1001) / 1000) (t * (tk % 1001) / 1000) off = l at *
                                    generalize aroundO day (a * (tk % 1001) / 1000) (t * (tk % 1001) / 1000 + ad) off = q at *
                                    unfold Reg.val at AL' AW'
                                    unfold Reg.val Cont.val at SL
                                    have SL' := Lib.hid SL; clear SL
                                    go_wp2_with fail
                                    refine wp_region_gw2 (by kernel_rfl) (by kernel_rfl) ?_
                                    repeat (go_big_quiet_step (first | (go_at_call 20; first | (with_reducible exact Calls.gw_of (I1'.out _)) | (with_reducible exact Calls.gw_of (I2'.out _))) | (go_at_call 28; with_reducible exact Calls.gw_of (LV'.out _ (SV.out.trans ((below_gw V _).mono SV.out.size))))))
                                    refine wpQuiet_nil ?_
                                    rintro _ ⟨z7, rfl⟩
                                    clear U1 U2 s0V
                                    go_wp2_with fail
                                    refine (Calls.gw_of (AR'.out _)).mono ?_
                                    rintro e w1 ⟨rfl, z8, rfl⟩
                                    go_upto_region 5 with (fail)
                                    obtain ⟨W2, hW2⟩ : ∃ W2, ((gw V z8)).alloc (.cells #[.int .i64 m.day, .int .i64 m.vlo, .int .i64 m.vhi, .int .i64 m.slo, .int .i64 m.shi] 44) = W2 := ⟨_, rfl⟩
                                    have hbW2 : Below V.heap.size V W2 := by rw [← hW2]; exact (below_gw V z8).alloc (by simp [gw_size]) _
                                    have ZcW2 := Lib.hid ((hbW2.block _ (Array.getElem?_eq_some_iff.1 ZV0.out).1).trans ZV0.out)
                                    have ZxW2 := Lib.hid ((hbW2.block _ (Array.getElem?_eq_some_iff.1 ZV1.out).1).trans ZV1.out)
                                    have zmW2 : W2.heap[V.heap.size + z8.bs.size]? = some (.cells #[.int .i64 m.day, .int .i64 m.vlo, .int .i64 m.vhi, .int .i64 m.slo, .int .i64 m.shi] 44 (0, 0)) := by rw [← hW2]; exact alloc_at (by simp [gw_size])
                                    have ZmW2 := Lib.hid zmW2; clear zmW2
                                    have HBW2 := Lib.hid (thru hbW2 HBV.out)
                                    have SBW2 := Lib.hid hbW2; clear hbW2
                                    have HWW2 := Lib.hid hW2; clear hW2
                                    rw [HWW2.out]
                                    clear e00 e01 e02 e10 e11 e12 e13 e14
                                    have S2 := Lib.hid (SV.out.trans (SBW2.out.mono SV.out.size))
                                    have ec0W2 : W2.cell? ⟨w.heap.size, 0, none⟩ = some (.int .i64 C.days) := cell_of_block ZcW2.out 0 (by simp)
                                    have ec1W2 : W2.cell? ⟨w.heap.size, 1, none⟩ = some (.slice C.aA C.nA C.cA) := cell_of_block ZcW2.out 1 (by simp)
                                    have ec2W2 : W2.cell? ⟨w.heap.size, 2, none⟩ = some (.slice C.aW C.nW C.cW) := cell_of_block ZcW2.out 2 (by simp)
                                    have lcW2 := (Array.getElem?_eq_some_iff.1 ZcW2.out).1
                                    have ex0W2 : W2.cell? ⟨w.heap.size + 1, 0, none⟩ = some (.int .i64 x.day) := cell_of_block ZxW2.out 0 (by simp)
                                    have ex1W2 : W2.cell? ⟨w.heap.size + 1, 1, none⟩ = some (.int .i64 x.alo) := cell_of_block ZxW2.out 1 (by simp)
                                    have ex2W2 : W2.cell? ⟨w.heap.size + 1, 2, none⟩ = some (.int .i64 x.ahi) := cell_of_block ZxW2.out 2 (by simp)
                                    have ex3W2 : W2.cell? ⟨w.heap.size + 1, 3, none⟩ = some (.int .i64 x.wlo) := cell_of_block ZxW2.out 3 (by simp)
                                    have ex4W2 : W2.cell? ⟨w.heap.size + 1, 4, none⟩ = some (.int .i64 x.whi) := cell_of_block ZxW2.out 4 (by simp)
                                    have lxW2 := (Array.getElem?_eq_some_iff.1 ZxW2.out).1
                                    have em0W2 : W2.cell? ⟨V.heap.size + z8.bs.size, 0, none⟩ = some (.int .i64 m.day) := cell_of_block ZmW2.out 0 (by simp)
                                    have em1W2 : W2.cell? ⟨V.heap.size + z8.bs.size, 1, none⟩ = some (.int .i64 m.vlo) := cell_of_block ZmW2.out 1 (by simp)
                                    have em2W2 : W2.cell? ⟨V.heap.size + z8.bs.size, 2, none⟩ = some (.int .i64 m.vhi) := cell_of_block ZmW2.out 2 (by simp)
                                    have em3W2 : W2.cell? ⟨V.heap.size + z8.bs.size, 3, none⟩ = some (.int .i64 m.slo) := cell_of_block ZmW2.out 3 (by simp)
                                    have em4W2 : W2.cell? ⟨V.heap.size + z8.bs.size, 4, none⟩ = some (.int .i64 m.shi) := cell_of_block ZmW2.out 4 (by simp)
                                    have lmW2 := (Array.getElem?_eq_some_iff.1 ZmW2.out).1
                                    go_wp2_with fail
                                    refine (Calls.grown (ME'.out _ (S2.out))).mono ?_
                                    rintro e w1 ⟨rfl, z9, rfl⟩
                                    go_upto_region 8 with (fail)
                                    obtain ⟨W3, hW3⟩ : ∃ W3, ((gw W2 z9)).alloc (.cells #[.int .i64 v.day, .int .i64 v.alo, .int .i64 v.ahi, .int .i64 v.wlo, .int .i64 v.whi] 28) = W3 := ⟨_, rfl⟩
                                    have hbW3 : Below W2.heap.size W2 W3 := by rw [← hW3]; exact (below_gw W2 z9).alloc (by simp [gw_size]) _
                                    have ZcW3 := Lib.hid ((hbW3.block _ (Array.getElem?_eq_some_iff.1 ZcW2.out).1).trans ZcW2.out)
                                    have ZxW3 := Lib.hid ((hbW3.block _ (Array.getElem?_eq_some_iff.1 ZxW2.out).1).trans ZxW2.out)
                                    have ZmW3 := Lib.hid ((hbW3.block _ (Array.getElem?_eq_some_iff.1 ZmW2.out).1).trans ZmW2.out)
                                    have zvW3 : W3.heap[W2.heap.size + z9.bs.size]? = some (.cells #[.int .i64 v.day, .int .i64 v.alo, .int .i64 v.ahi, .int .i64 v.wlo, .int .i64 v.whi] 28 (0, 0)) := by rw [← hW3]; exact alloc_at (by simp [gw_size])
                                    have ZvW3 := Lib.hid zvW3; clear zvW3
                                    have HBW3 := Lib.hid (thru hbW3 HBW2.out)
                                    have SBW3 := Lib.hid hbW3; clear hbW3
                                    have HWW3 := Lib.hid hW3; clear hW3
                                    rw [HWW3.out]
                                    clear ec0W2 ec1W2 ec2W2 ex0W2 ex1W2 ex2W2 ex3W2 ex4W2 em0W2 em1W2 em2W2 em3W2 em4W2
                                    have S3 := Lib.hid (S2.out.trans (SBW3.out.mono S2.out.size))
                                    have ec0W3 : W3.cell? ⟨w.heap.size, 0, none⟩ = some (.int .i64 C.days) := cell_of_block ZcW3.out 0 (by simp)
                                    have ec1W3 : W3.cell? ⟨w.heap.size, 1, none⟩ = some (.slice C.aA C.nA C.cA) := cell_of_block ZcW3.out 1 (by simp)
                                    have ec2W3 : W3.cell? ⟨w.heap.size, 2, none⟩ = some (.slice C.aW C.nW C.cW) := cell_of_block ZcW3.out 2 (by simp)
                                    have lcW3 := (Array.getElem?_eq_some_iff.1 ZcW3.out).1
                                    have ex0W3 : W3.cell? ⟨w.heap.size + 1, 0, none⟩ = some (.int .i64 x.day) := cell_of_block ZxW3.out 0 (by simp)
                                    have ex1W3 : W3.cell? ⟨w.heap.size + 1, 1, none⟩ = some (.int .i64 x.alo) := cell_of_block ZxW3.out 1 (by simp)
                                    have ex2W3 : W3.cell? ⟨w.heap.size + 1, 2, none⟩ = some (.int .i64 x.ahi) := cell_of_block ZxW3.out 2 (by simp)
                                    have ex3W3 : W3.cell? ⟨w.heap.size + 1, 3, none⟩ = some (.int .i64 x.wlo) := cell_of_block ZxW3.out 3 (by simp)
                                    have ex4W3 : W3.cell? ⟨w.heap.size + 1, 4, none⟩ = some (.int .i64 x.whi) := cell_of_block ZxW3.out 4 (by simp)
                                    have lxW3 := (Array.getElem?_eq_some_iff.1 ZxW3.out).1
                                    have em0W3 : W3.cell? ⟨V.heap.size + z8.bs.size, 0, none⟩ = some (.int .i64 m.day) := cell_of_block ZmW3.out 0 (by simp)
                                    have em1W3 : W3.cell? ⟨V.heap.size + z8.bs.size, 1, none⟩ = some (.int .i64 m.vlo) := cell_of_block ZmW3.out 1 (by simp)
                                    have em2W3 : W3.cell? ⟨V.heap.size + z8.bs.size, 2, none⟩ = some (.int .i64 m.vhi) := cell_of_block ZmW3.out 2 (by simp)
                                    have em3W3 : W3.cell? ⟨V.heap.size + z8.bs.size, 3, none⟩ = some (.int .i64 m.slo) := cell_of_block ZmW3.out 3 (by simp)
                                    have em4W3 : W3.cell? ⟨V.heap.size + z8.bs.size, 4, none⟩ = some (.int .i64 m.shi) := cell_of_block ZmW3.out 4 (by simp)
                                    have lmW3 := (Array.getElem?_eq_some_iff.1 ZmW3.out).1
                                    have ev0W3 : W3.cell? ⟨W2.heap.size + z9.bs.size, 0, none⟩ = some (.int .i64 v.day) := cell_of_block ZvW3.out 0 (by simp)
                                    have ev1W3 : W3.cell? ⟨W2.heap.size + z9.bs.size, 1, none⟩ = some (.int .i64 v.alo) := cell_of_block ZvW3.out 1 (by simp)
                                    have ev2W3 : W3.cell? ⟨W2.heap.size + z9.bs.size, 2, none⟩ = some (.int .i64 v.ahi) := cell_of_block ZvW3.out 2 (by simp)
                                    have ev3W3 : W3.cell? ⟨W2.heap.size + z9.bs.size, 3, none⟩ = some (.int .i64 v.wlo) := cell_of_block ZvW3.out 3 (by simp)
                                    have ev4W3 : W3.cell? ⟨W2.heap.size + z9.bs.size, 4, none⟩ = some (.int .i64 v.whi) := cell_of_block ZvW3.out 4 (by simp)
                                    have lvW3 := (Array.getElem?_eq_some_iff.1 ZvW3.out).1
                                    go_wp2_with fail
                                    refine (Calls.grown (SH'.out _ (S3.out))).mono ?_
                                    rintro e w1 ⟨rfl, z10, rfl⟩
                                    go_wp2_with fail
                                    refine (Calls.gw_of (has_true _ _ _ _ (by assumption) (by assumption))).mono ?_
                                    rintro e w1 ⟨rfl, z11, rfl⟩
                                    go_wp2_with fail
                                    refine (Calls.gw_of (has_true _ _ _ _ (by assumption) (by assumption))).mono ?_
                                    rintro e w1 ⟨rfl, z12, rfl⟩
                                    go_upto_region 11 with (fail)
                                    obtain ⟨W4, hW4⟩ : ∃ W4, gw W3 z12 = W4 := ⟨_, rfl⟩
                                    have hbW4 : Below W3.heap.size W3 W4 := by rw [← hW4]; exact below_gw W3 z12
                                    have ZcW4 := Lib.hid ((hbW4.block _ (Array.getElem?_eq_some_iff.1 ZcW3.out).1).trans ZcW3.out)
                                    have ZxW4 := Lib.hid ((hbW4.block _ (Array.getElem?_eq_some_iff.1 ZxW3.out).1).trans ZxW3.out)
                                    have ZmW4 := Lib.hid ((hbW4.block _ (Array.getElem?_eq_some_iff.1 ZmW3.out).1).trans ZmW3.out)
                                    have ZvW4 := Lib.hid ((hbW4.block _ (Array.getElem?_eq_some_iff.1 ZvW3.out).1).trans ZvW3.out)
                                    have HBW4 := Lib.hid (thru hbW4 HBW3.out)
                                    have SBW4 := Lib.hid hbW4; clear hbW4
                                    have HWW4 := Lib.hid hW4; clear hW4
                                    rw [HWW4.out]
                                    clear ec0W3 ec1W3 ec2W3 ex0W3 ex1W3 ex2W3 ex3W3 ex4W3 em0W3 em1W3 em2W3 em3W3 em4W3 ev0W3 ev1W3 ev2W3 ev3W3 ev4W3
                                    have S4 := Lib.hid (S3.out.trans (SBW4.out.mono S3.out.size))
                                    have ec0W4 : W4.cell? ⟨w.heap.size, 0, none⟩ = some (.int .i64 C.days) := cell_of_block ZcW4.out 0 (by simp)
                                    have ec1W4 : W4.cell? ⟨w.heap.size, 1, none⟩ = some (.slice C.aA C.nA C.cA) := cell_of_block ZcW4.out 1 (by simp)
                                    have ec2W4 : W4.cell? ⟨w.heap.size, 2, none⟩ = some (.slice C.aW C.nW C.cW) := cell_of_block ZcW4.out 2 (by simp)
                                    have lcW4 := (Array.getElem?_eq_some_iff.1 ZcW4.out).1
                                    have ex0W4 : W4.cell? ⟨w.heap.size + 1, 0, none⟩ = some (.int .i64 x.day) := cell_of_block ZxW4.out 0 (by simp)
                                    have ex1W4 : W4.cell? ⟨w.heap.size + 1, 1, none⟩ = some (.int .i64 x.alo) := cell_of_block ZxW4.out 1 (by simp)
                                    have ex2W4 : W4.cell? ⟨w.heap.size + 1, 2, none⟩ = some (.int .i64 x.ahi) := cell_of_block ZxW4.out 2 (by simp)
                                    have ex3W4 : W4.cell? ⟨w.heap.size + 1, 3, none⟩ = some (.int .i64 x.wlo) := cell_of_block ZxW4.out 3 (by simp)
                                    have ex4W4 : W4.cell? ⟨w.heap.size + 1, 4, none⟩ = some (.int .i64 x.whi) := cell_of_block ZxW4.out 4 (by simp)
                                    have lxW4 := (Array.getElem?_eq_some_iff.1 ZxW4.out).1
                                    go_wp2_with fail
                                    refine (Calls.grown (AL'.out _)).mono ?_
                                    rintro e w1 ⟨rfl, z13, rfl⟩
                                    go_upto_region 15 with (fail)
                                    obtain ⟨W5, hW5⟩ : ∃ W5, ((gw W4 z13)).alloc (.cells #[.int .i64 l.day, .int .i64 l.vlo, .int .i64 l.vhi, .int .i64 l.slo, .int .i64 l.shi] 44) = W5 := ⟨_, rfl⟩
                                    have hbW5 : Below W4.heap.size W4 W5 := by rw [← hW5]; exact (below_gw W4 z13).alloc (by simp [gw_size]) _
                                    have ZcW5 := Lib.hid ((hbW5.block _ (Array.getElem?_eq_some_iff.1 ZcW4.out).1).trans ZcW4.out)
                                    have ZxW5 := Lib.hid ((hbW5.block _ (Array.getElem?_eq_some_iff.1 ZxW4.out).1).trans ZxW4.out)
                                    have ZmW5 := Lib.hid ((hbW5.block _ (Array.getElem?_eq_some_iff.1 ZmW4.out).1).trans ZmW4.out)
                                    have ZvW5 := Lib.hid ((hbW5.block _ (Array.getElem?_eq_some_iff.1 ZvW4.out).1).trans ZvW4.out)
                                    have zlW5 : W5.heap[W4.heap.size + z13.bs.size]? = some (.cells #[.int .i64 l.day, .int .i64 l.vlo, .int .i64 l.vhi, .int .i64 l.slo, .int .i64 l.shi] 44 (0, 0)) := by rw [← hW5]; exact alloc_at (by simp [gw_size])
                                    have ZlW5 := Lib.hid zlW5; clear zlW5
                                    have HBW5 := Lib.hid (thru hbW5 HBW4.out)
                                    have SBW5 := Lib.hid hbW5; clear hbW5
                                    have HWW5 := Lib.hid hW5; clear hW5
                                    rw [HWW5.out]
                                    clear ec0W4 ec1W4 ec2W4 ex0W4 ex1W4 ex2W4 ex3W4 ex4W4
                                    have S5 := Lib.hid (S4.out.trans (SBW5.out.mono S4.out.size))
                                    have ec0W5 : W5.cell? ⟨w.heap.size, 0, none⟩ = some (.int .i64 C.days) := cell_of_block ZcW5.out 0 (by simp)
                                    have ec1W5 : W5.cell? ⟨w.heap.size, 1, none⟩ = some (.slice C.aA C.nA C.cA) := cell_of_block ZcW5.out 1 (by simp)
                                    have ec2W5 : W5.cell? ⟨w.heap.size, 2, none⟩ = some (.slice C.aW C.nW C.cW) := cell_of_block ZcW5.out 2 (by simp)
                                    have lcW5 := (Array.getElem?_eq_some_iff.1 ZcW5.out).1
                                    have ex0W5 : W5.cell? ⟨w.heap.size + 1, 0, none⟩ = some (.int .i64 x.day) := cell_of_block ZxW5.out 0 (by simp)
                                    have ex1W5 : W5.cell? ⟨w.heap.size + 1, 1, none⟩ = some (.int .i64 x.alo) := cell_of_block ZxW5.out 1 (by simp)
                                    have ex2W5 : W5.cell? ⟨w.heap.size + 1, 2, none⟩ = some (.int .i64 x.ahi) := cell_of_block ZxW5.out 2 (by simp)
                                    have ex3W5 : W5.cell? ⟨w.heap.size + 1, 3, none⟩ = some (.int .i64 x.wlo) := cell_of_block ZxW5.out 3 (by simp)
                                    have ex4W5 : W5.cell? ⟨w.heap.size + 1, 4, none⟩ = some (.int .i64 x.whi) := cell_of_block ZxW5.out 4 (by simp)
                                    have lxW5 := (Array.getElem?_eq_some_iff.1 ZxW5.out).1
                                    have el0W5 : W5.cell? ⟨W4.heap.size + z13.bs.size, 0, none⟩ = some (.int .i64 l.day) := cell_of_block ZlW5.out 0 (by simp)
                                    have el1W5 : W5.cell? ⟨W4.heap.size + z13.bs.size, 1, none⟩ = some (.int .i64 l.vlo) := cell_of_block ZlW5.out 1 (by simp)
                                    have el2W5 : W5.cell? ⟨W4.heap.size + z13.bs.size, 2, none⟩ = some (.int .i64 l.vhi) := cell_of_block ZlW5.out 2 (by simp)
                                    have el3W5 : W5.cell? ⟨W4.heap.size + z13.bs.size, 3, none⟩ = some (.int .i64 l.slo) := cell_of_block ZlW5.out 3 (by simp)
                                    have el4W5 : W5.cell? ⟨W4.heap.size + z13.bs.size, 4, none⟩ = some (.int .i64 l.shi) := cell_of_block ZlW5.out 4 (by simp)
                                    have llW5 := (Array.getElem?_eq_some_iff.1 ZlW5.out).1
                                    go_wp2_with fail
                                    refine (Calls.grown (SL'.out _ (S5.out))).mono ?_
                                    rintro e w1 ⟨rfl, z14, rfl⟩
                                    go_wp2_with fail
                                    refine (Calls.gw_of (AW'.out _)).mono ?_
                                    rintro e w1 ⟨rfl, z15, rfl⟩
                                    go_upto_region 20 with (fail)
                                    obtain ⟨W6, hW6⟩ : ∃ W6, ((gw W5 z15)).alloc (.cells #[.int .i64 q.day, .int .i64 q.vlo, .int .i64 q.vhi, .int .i64 q.slo, .int .i64 q.shi] 44) = W6 := ⟨_, rfl⟩
                                    have hbW6 : Below W5.heap.size W5 W6 := by rw [← hW6]; exact (below_gw W5 z15).alloc (by simp [gw_size]) _
                                    have ZcW6 := Lib.hid ((hbW6.block _ (Array.getElem?_eq_some_iff.1 ZcW5.out).1).trans ZcW5.out)
                                    have ZxW6 := Lib.hid ((hbW6.block _ (Array.getElem?_eq_some_iff.1 ZxW5.out).1).trans ZxW5.out)
                                    have ZmW6 := Lib.hid ((hbW6.block _ (Array.getElem?_eq_some_iff.1 ZmW5.out).1).trans ZmW5.out)
                                    have ZvW6 := Lib.hid ((hbW6.block _ (Array.getElem?_eq_some_iff.1 ZvW5.out).1).trans ZvW5.out)
                                    have ZlW6 := Lib.hid ((hbW6.block _ (Array.getElem?_eq_some_iff.1 ZlW5.out).1).trans ZlW5.out)
                                    have zqW6 : W6.heap[W5.heap.size + z15.bs.size]? = some (.cells #[.int .i64 q.day, .int .i64 q.vlo, .int .i64 q.vhi, .int .i64 q.slo, .int .i64 q.shi] 44 (0, 0)) := by rw [← hW6]; exact alloc_at (by simp [gw_size])
                                    have ZqW6 := Lib.hid zqW6; clear zqW6
                                    have HBW6 := Lib.hid (thru hbW6 HBW5.out)
                                    have SBW6 := Lib.hid hbW6; clear hbW6
                                    have HWW6 := Lib.hid hW6; clear hW6
                                    rw [HWW6.out]
                                    clear ec0W5 ec1W5 ec2W5 ex0W5 ex1W5 ex2W5 ex3W5 ex4W5 el0W5 el1W5 el2W5 el3W5 el4W5
                                    have S6 := Lib.hid (S5.out.trans (SBW6.out.mono S5.out.size))
                                    have ec0W6 : W6.cell? ⟨w.heap.size, 0, none⟩ = some (.int .i64 C.days) := cell_of_block ZcW6.out 0 (by simp)
                                    have ec1W6 : W6.cell? ⟨w.heap.size, 1, none⟩ = some (.slice C.aA C.nA C.cA) := cell_of_block ZcW6.out 1 (by simp)
                                    have ec2W6 : W6.cell? ⟨w.heap.size, 2, none⟩ = some (.slice C.aW C.nW C.cW) := cell_of_block ZcW6.out 2 (by simp)
                                    have lcW6 := (Array.getElem?_eq_some_iff.1 ZcW6.out).1
                                    have ex0W6 : W6.cell? ⟨w.heap.size + 1, 0, none⟩ = some (.int .i64 x.day) := cell_of_block ZxW6.out 0 (by simp)
                                    have ex1W6 : W6.cell? ⟨w.heap.size + 1, 1, none⟩ = some (.int .i64 x.alo) := cell_of_block ZxW6.out 1 (by simp)
                                    have ex2W6 : W6.cell? ⟨w.heap.size + 1, 2, none⟩ = some (.int .i64 x.ahi) := cell_of_block ZxW6.out 2 (by simp)
                                    have ex3W6 : W6.cell? ⟨w.heap.size + 1, 3, none⟩ = some (.int .i64 x.wlo) := cell_of_block ZxW6.out 3 (by simp)
                                    have ex4W6 : W6.cell? ⟨w.heap.size + 1, 4, none⟩ = some (.int .i64 x.whi) := cell_of_block ZxW6.out 4 (by simp)
                                    have lxW6 := (Array.getElem?_eq_some_iff.1 ZxW6.out).1
                                    have eq0W6 : W6.cell? ⟨W5.heap.size + z15.bs.size, 0, none⟩ = some (.int .i64 q.day) := cell_of_block ZqW6.out 0 (by simp)
                                    have eq1W6 : W6.cell? ⟨W5.heap.size + z15.bs.size, 1, none⟩ = some (.int .i64 q.vlo) := cell_of_block ZqW6.out 1 (by simp)
                                    have eq2W6 : W6.cell? ⟨W5.heap.size + z15.bs.size, 2, none⟩ = some (.int .i64 q.vhi) := cell_of_block ZqW6.out 2 (by simp)
                                    have eq3W6 : W6.cell? ⟨W5.heap.size + z15.bs.size, 3, none⟩ = some (.int .i64 q.slo) := cell_of_block ZqW6.out 3 (by simp)
                                    have eq4W6 : W6.cell? ⟨W5.heap.size + z15.bs.size, 4, none⟩ = some (.int .i64 q.shi) := cell_of_block ZqW6.out 4 (by simp)
                                    have lqW6 := (Array.getElem?_eq_some_iff.1 ZqW6.out).1
                                    go_wp2_with fail
                                    refine (Calls.grown (alive_any _)).mono ?_
                                    rintro e w1 ⟨rfl, z16, rfl⟩
                                    go_wp2_with fail
                                    go_ret
                                    exact ⟨rfl, HBW6.out.gw z16⟩
                                | true =>
                                  as_aux_lemma =>
                                    rw [hl] at AL'
                                    rw [hw] at AW'
                                    have SL := HSH.out (aroundO day (a * (tk % 1001) / 1000) (t * (tk % 1001) / 1000) off)
                                    rw [f2, f1] at SL
                                    clear f1 f2
                                    have SW := HSH.out (aroundO day (a * (tk % 1001) / 1000) (t * (tk % 1001) / 1000 + ad) off)
                                    obtain ⟨h1, h3⟩ := FW.out hw
                                    rw [h1] at SW
                                    clear h1
                                    generalize showV C x k F G (aroundO day (a * (tk % 1001) / 1000) (t * (tk % 1001) / 1000 + ad) off) = nw at *
                                    have nw3 : (nw != 3) = true := by simpa using h3
                                    clear h3
                                    clear FL FW hl hw
                                    generalize aroundO day (a * (tk % 1001) / 1000) (t * (tk % 1001) / 1000) off = l at *
                                    generalize aroundO day (a * (tk % 1001) / 1000) (t * (tk % 1001) / 1000 + ad) off = q at *
                                    unfold Reg.val at AL' AW'
                                    unfold Reg.val Cont.val at SL
                                    have SL' := Lib.hid SL; clear SL
                                    unfold Reg.val Cont.val at SW
                                    have SW' := Lib.hid SW; clear SW
                                    go_wp2_with fail
                                    refine wp_region_gw2 (by kernel_rfl) (by kernel_rfl) ?_
                                    repeat (go_big_quiet_step (first | (go_at_call 20; first | (with_reducible exact Calls.gw_of (I1'.out _)) | (with_reducible exact Calls.gw_of (I2'.out _))) | (go_at_call 28; with_reducible exact Calls.gw_of (LV'.out _ (SV.out.trans ((below_gw V _).mono SV.out.size))))))
                                    refine wpQuiet_nil ?_
                                    rintro _ ⟨z7, rfl⟩
                                    clear U1 U2 s0V
                                    go_wp2_with fail
                                    refine (Calls.gw_of (AR'.out _)).mono ?_
                                    rintro e w1 ⟨rfl, z8, rfl⟩
                                    go_upto_region 5 with (fail)
                                    obtain ⟨W2, hW2⟩ : ∃ W2, ((gw V z8)).alloc (.cells #[.int .i64 m.day, .int .i64 m.vlo, .int .i64 m.vhi, .int .i64 m.slo, .int .i64 m.shi] 44) = W2 := ⟨_, rfl⟩
                                    have hbW2 : Below V.heap.size V W2 := by rw [← hW2]; exact (below_gw V z8).alloc (by simp [gw_size]) _
                                    have ZcW2 := Lib.hid ((hbW2.block _ (Array.getElem?_eq_some_iff.1 ZV0.out).1).trans ZV0.out)
                                    have ZxW2 := Lib.hid ((hbW2.block _ (Array.getElem?_eq_some_iff.1 ZV1.out).1).trans ZV1.out)
                                    have zmW2 : W2.heap[V.heap.size + z8.bs.size]? = some (.cells #[.int .i64 m.day, .int .i64 m.vlo, .int .i64 m.vhi, .int .i64 m.slo, .int .i64 m.shi] 44 (0, 0)) := by rw [← hW2]; exact alloc_at (by simp [gw_size])
                                    have ZmW2 := Lib.hid zmW2; clear zmW2
                                    have HBW2 := Lib.hid (thru hbW2 HBV.out)
                                    have SBW2 := Lib.hid hbW2; clear hbW2
                                    have HWW2 := Lib.hid hW2; clear hW2
                                    rw [HWW2.out]
                                    clear e00 e01 e02 e10 e11 e12 e13 e14
                                    have S2 := Lib.hid (SV.out.trans (SBW2.out.mono SV.out.size))
                                    have ec0W2 : W2.cell? ⟨w.heap.size, 0, none⟩ = some (.int .i64 C.days) := cell_of_block ZcW2.out 0 (by simp)
                                    have ec1W2 : W2.cell? ⟨w.heap.size, 1, none⟩ = some (.slice C.aA C.nA C.cA) := cell_of_block ZcW2.out 1 (by simp)
                                    have ec2W2 : W2.cell? ⟨w.heap.size, 2, none⟩ = some (.slice C.aW C.nW C.cW) := cell_of_block ZcW2.out 2 (by simp)
                                    have lcW2 := (Array.getElem?_eq_some_iff.1 ZcW2.out).1
                                    have ex0W2 : W2.cell? ⟨w.heap.size + 1, 0, none⟩ = some (.int .i64 x.day) := cell_of_block ZxW2.out 0 (by simp)
                                    have ex1W2 : W2.cell? ⟨w.heap.size + 1, 1, none⟩ = some (.int .i64 x.alo) := cell_of_block ZxW2.out 1 (by simp)
                                    have ex2W2 : W2.cell? ⟨w.heap.size + 1, 2, none⟩ = some (.int .i64 x.ahi) := cell_of_block ZxW2.out 2 (by simp)
                                    have ex3W2 : W2.cell? ⟨w.heap.size + 1, 3, none⟩ = some (.int .i64 x.wlo) := cell_of_block ZxW2.out 3 (by simp)
                                    have ex4W2 : W2.cell? ⟨w.heap.size + 1, 4, none⟩ = some (.int .i64 x.whi) := cell_of_block ZxW2.out 4 (by simp)
                                    have lxW2 := (Array.getElem?_eq_some_iff.1 ZxW2.out).1
                                    have em0W2 : W2.cell? ⟨V.heap.size + z8.bs.size, 0, none⟩ = some (.int .i64 m.day) := cell_of_block ZmW2.out 0 (by simp)
                                    have em1W2 : W2.cell? ⟨V.heap.size + z8.bs.size, 1, none⟩ = some (.int .i64 m.vlo) := cell_of_block ZmW2.out 1 (by simp)
                                    have em2W2 : W2.cell? ⟨V.heap.size + z8.bs.size, 2, none⟩ = some (.int .i64 m.vhi) := cell_of_block ZmW2.out 2 (by simp)
                                    have em3W2 : W2.cell? ⟨V.heap.size + z8.bs.size, 3, none⟩ = some (.int .i64 m.slo) := cell_of_block ZmW2.out 3 (by simp)
                                    have em4W2 : W2.cell? ⟨V.heap.size + z8.bs.size, 4, none⟩ = some (.int .i64 m.shi) := cell_of_block ZmW2.out 4 (by simp)
                                    have lmW2 := (Array.getElem?_eq_some_iff.1 ZmW2.out).1
                                    go_wp2_with fail
                                    refine (Calls.grown (ME'.out _ (S2.out))).mono ?_
                                    rintro e w1 ⟨rfl, z9, rfl⟩
                                    go_upto_region 8 with (fail)
                                    obtain ⟨W3, hW3⟩ : ∃ W3, ((gw W2 z9)).alloc (.cells #[.int .i64 v.day, .int .i64 v.alo, .int .i64 v.ahi, .int .i64 v.wlo, .int .i64 v.whi] 28) = W3 := ⟨_, rfl⟩
                                    have hbW3 : Below W2.heap.size W2 W3 := by rw [← hW3]; exact (below_gw W2 z9).alloc (by simp [gw_size]) _
                                    have ZcW3 := Lib.hid ((hbW3.block _ (Array.getElem?_eq_some_iff.1 ZcW2.out).1).trans ZcW2.out)
                                    have ZxW3 := Lib.hid ((hbW3.block _ (Array.getElem?_eq_some_iff.1 ZxW2.out).1).trans ZxW2.out)
                                    have ZmW3 := Lib.hid ((hbW3.block _ (Array.getElem?_eq_some_iff.1 ZmW2.out).1).trans ZmW2.out)
                                    have zvW3 : W3.heap[W2.heap.size + z9.bs.size]? = some (.cells #[.int .i64 v.day, .int .i64 v.alo, .int .i64 v.ahi, .int .i64 v.wlo, .int .i64 v.whi] 28 (0, 0)) := by rw [← hW3]; exact alloc_at (by simp [gw_size])
                                    have ZvW3 := Lib.hid zvW3; clear zvW3
                                    have HBW3 := Lib.hid (thru hbW3 HBW2.out)
                                    have SBW3 := Lib.hid hbW3; clear hbW3
                                    have HWW3 := Lib.hid hW3; clear hW3
                                    rw [HWW3.out]
                                    clear ec0W2 ec1W2 ec2W2 ex0W2 ex1W2 ex2W2 ex3W2 ex4W2 em0W2 em1W2 em2W2 em3W2 em4W2
                                    have S3 := Lib.hid (S2.out.trans (SBW3.out.mono S2.out.size))
                                    have ec0W3 : W3.cell? ⟨w.heap.size, 0, none⟩ = some (.int .i64 C.days) := cell_of_block ZcW3.out 0 (by simp)
                                    have ec1W3 : W3.cell? ⟨w.heap.size, 1, none⟩ = some (.slice C.aA C.nA C.cA) := cell_of_block ZcW3.out 1 (by simp)
                                    have ec2W3 : W3.cell? ⟨w.heap.size, 2, none⟩ = some (.slice C.aW C.nW C.cW) := cell_of_block ZcW3.out 2 (by simp)
                                    have lcW3 := (Array.getElem?_eq_some_iff.1 ZcW3.out).1
                                    have ex0W3 : W3.cell? ⟨w.heap.size + 1, 0, none⟩ = some (.int .i64 x.day) := cell_of_block ZxW3.out 0 (by simp)
                                    have ex1W3 : W3.cell? ⟨w.heap.size + 1, 1, none⟩ = some (.int .i64 x.alo) := cell_of_block ZxW3.out 1 (by simp)
                                    have ex2W3 : W3.cell? ⟨w.heap.size + 1, 2, none⟩ = some (.int .i64 x.ahi) := cell_of_block ZxW3.out 2 (by simp)
                                    have ex3W3 : W3.cell? ⟨w.heap.size + 1, 3, none⟩ = some (.int .i64 x.wlo) := cell_of_block ZxW3.out 3 (by simp)
                                    have ex4W3 : W3.cell? ⟨w.heap.size + 1, 4, none⟩ = some (.int .i64 x.whi) := cell_of_block ZxW3.out 4 (by simp)
                                    have lxW3 := (Array.getElem?_eq_some_iff.1 ZxW3.out).1
                                    have em0W3 : W3.cell? ⟨V.heap.size + z8.bs.size, 0, none⟩ = some (.int .i64 m.day) := cell_of_block ZmW3.out 0 (by simp)
                                    have em1W3 : W3.cell? ⟨V.heap.size + z8.bs.size, 1, none⟩ = some (.int .i64 m.vlo) := cell_of_block ZmW3.out 1 (by simp)
                                    have em2W3 : W3.cell? ⟨V.heap.size + z8.bs.size, 2, none⟩ = some (.int .i64 m.vhi) := cell_of_block ZmW3.out 2 (by simp)
                                    have em3W3 : W3.cell? ⟨V.heap.size + z8.bs.size, 3, none⟩ = some (.int .i64 m.slo) := cell_of_block ZmW3.out 3 (by simp)
                                    have em4W3 : W3.cell? ⟨V.heap.size + z8.bs.size, 4, none⟩ = some (.int .i64 m.shi) := cell_of_block ZmW3.out 4 (by simp)
                                    have lmW3 := (Array.getElem?_eq_some_iff.1 ZmW3.out).1
                                    have ev0W3 : W3.cell? ⟨W2.heap.size + z9.bs.size, 0, none⟩ = some (.int .i64 v.day) := cell_of_block ZvW3.out 0 (by simp)
                                    have ev1W3 : W3.cell? ⟨W2.heap.size + z9.bs.size, 1, none⟩ = some (.int .i64 v.alo) := cell_of_block ZvW3.out 1 (by simp)
                                    have ev2W3 : W3.cell? ⟨W2.heap.size + z9.bs.size, 2, none⟩ = some (.int .i64 v.ahi) := cell_of_block ZvW3.out 2 (by simp)
                                    have ev3W3 : W3.cell? ⟨W2.heap.size + z9.bs.size, 3, none⟩ = some (.int .i64 v.wlo) := cell_of_block ZvW3.out 3 (by simp)
                                    have ev4W3 : W3.cell? ⟨W2.heap.size + z9.bs.size, 4, none⟩ = some (.int .i64 v.whi) := cell_of_block ZvW3.out 4 (by simp)
                                    have lvW3 := (Array.getElem?_eq_some_iff.1 ZvW3.out).1
                                    go_wp2_with fail
                                    refine (Calls.grown (SH'.out _ (S3.out))).mono ?_
                                    rintro e w1 ⟨rfl, z10, rfl⟩
                                    go_wp2_with fail
                                    refine (Calls.gw_of (has_true _ _ _ _ (by assumption) (by assumption))).mono ?_
                                    rintro e w1 ⟨rfl, z11, rfl⟩
                                    go_wp2_with fail
                                    refine (Calls.gw_of (has_true _ _ _ _ (by assumption) (by assumption))).mono ?_
                                    rintro e w1 ⟨rfl, z12, rfl⟩
                                    go_upto_region 11 with (fail)
                                    obtain ⟨W4, hW4⟩ : ∃ W4, gw W3 z12 = W4 := ⟨_, rfl⟩
                                    have hbW4 : Below W3.heap.size W3 W4 := by rw [← hW4]; exact below_gw W3 z12
                                    have ZcW4 := Lib.hid ((hbW4.block _ (Array.getElem?_eq_some_iff.1 ZcW3.out).1).trans ZcW3.out)
                                    have ZxW4 := Lib.hid ((hbW4.block _ (Array.getElem?_eq_some_iff.1 ZxW3.out).1).trans ZxW3.out)
                                    have ZmW4 := Lib.hid ((hbW4.block _ (Array.getElem?_eq_some_iff.1 ZmW3.out).1).trans ZmW3.out)
                                    have ZvW4 := Lib.hid ((hbW4.block _ (Array.getElem?_eq_some_iff.1 ZvW3.out).1).trans ZvW3.out)
                                    have HBW4 := Lib.hid (thru hbW4 HBW3.out)
                                    have SBW4 := Lib.hid hbW4; clear hbW4
                                    have HWW4 := Lib.hid hW4; clear hW4
                                    rw [HWW4.out]
                                    clear ec0W3 ec1W3 ec2W3 ex0W3 ex1W3 ex2W3 ex3W3 ex4W3 em0W3 em1W3 em2W3 em3W3 em4W3 ev0W3 ev1W3 ev2W3 ev3W3 ev4W3
                                    have S4 := Lib.hid (S3.out.trans (SBW4.out.mono S3.out.size))
                                    have ec0W4 : W4.cell? ⟨w.heap.size, 0, none⟩ = some (.int .i64 C.days) := cell_of_block ZcW4.out 0 (by simp)
                                    have ec1W4 : W4.cell? ⟨w.heap.size, 1, none⟩ = some (.slice C.aA C.nA C.cA) := cell_of_block ZcW4.out 1 (by simp)
                                    have ec2W4 : W4.cell? ⟨w.heap.size, 2, none⟩ = some (.slice C.aW C.nW C.cW) := cell_of_block ZcW4.out 2 (by simp)
                                    have lcW4 := (Array.getElem?_eq_some_iff.1 ZcW4.out).1
                                    have ex0W4 : W4.cell? ⟨w.heap.size + 1, 0, none⟩ = some (.int .i64 x.day) := cell_of_block ZxW4.out 0 (by simp)
                                    have ex1W4 : W4.cell? ⟨w.heap.size + 1, 1, none⟩ = some (.int .i64 x.alo) := cell_of_block ZxW4.out 1 (by simp)
                                    have ex2W4 : W4.cell? ⟨w.heap.size + 1, 2, none⟩ = some (.int .i64 x.ahi) := cell_of_block ZxW4.out 2 (by simp)
                                    have ex3W4 : W4.cell? ⟨w.heap.size + 1, 3, none⟩ = some (.int .i64 x.wlo) := cell_of_block ZxW4.out 3 (by simp)
                                    have ex4W4 : W4.cell? ⟨w.heap.size + 1, 4, none⟩ = some (.int .i64 x.whi) := cell_of_block ZxW4.out 4 (by simp)
                                    have lxW4 := (Array.getElem?_eq_some_iff.1 ZxW4.out).1
                                    go_wp2_with fail
                                    refine (Calls.grown (AL'.out _)).mono ?_
                                    rintro e w1 ⟨rfl, z13, rfl⟩
                                    go_upto_region 15 with (fail)
                                    obtain ⟨W5, hW5⟩ : ∃ W5, ((gw W4 z13)).alloc (.cells #[.int .i64 l.day, .int .i64 l.vlo, .int .i64 l.vhi, .int .i64 l.slo, .int .i64 l.shi] 44) = W5 := ⟨_, rfl⟩
                                    have hbW5 : Below W4.heap.size W4 W5 := by rw [← hW5]; exact (below_gw W4 z13).alloc (by simp [gw_size]) _
                                    have ZcW5 := Lib.hid ((hbW5.block _ (Array.getElem?_eq_some_iff.1 ZcW4.out).1).trans ZcW4.out)
                                    have ZxW5 := Lib.hid ((hbW5.block _ (Array.getElem?_eq_some_iff.1 ZxW4.out).1).trans ZxW4.out)
                                    have ZmW5 := Lib.hid ((hbW5.block _ (Array.getElem?_eq_some_iff.1 ZmW4.out).1).trans ZmW4.out)
                                    have ZvW5 := Lib.hid ((hbW5.block _ (Array.getElem?_eq_some_iff.1 ZvW4.out).1).trans ZvW4.out)
                                    have zlW5 : W5.heap[W4.heap.size + z13.bs.size]? = some (.cells #[.int .i64 l.day, .int .i64 l.vlo, .int .i64 l.vhi, .int .i64 l.slo, .int .i64 l.shi] 44 (0, 0)) := by rw [← hW5]; exact alloc_at (by simp [gw_size])
                                    have ZlW5 := Lib.hid zlW5; clear zlW5
                                    have HBW5 := Lib.hid (thru hbW5 HBW4.out)
                                    have SBW5 := Lib.hid hbW5; clear hbW5
                                    have HWW5 := Lib.hid hW5; clear hW5
                                    rw [HWW5.out]
                                    clear ec0W4 ec1W4 ec2W4 ex0W4 ex1W4 ex2W4 ex3W4 ex4W4
                                    have S5 := Lib.hid (S4.out.trans (SBW5.out.mono S4.out.size))
                                    have ec0W5 : W5.cell? ⟨w.heap.size, 0, none⟩ = some (.int .i64 C.days) := cell_of_block ZcW5.out 0 (by simp)
                                    have ec1W5 : W5.cell? ⟨w.heap.size, 1, none⟩ = some (.slice C.aA C.nA C.cA) := cell_of_block ZcW5.out 1 (by simp)
                                    have ec2W5 : W5.cell? ⟨w.heap.size, 2, none⟩ = some (.slice C.aW C.nW C.cW) := cell_of_block ZcW5.out 2 (by simp)
                                    have lcW5 := (Array.getElem?_eq_some_iff.1 ZcW5.out).1
                                    have ex0W5 : W5.cell? ⟨w.heap.size + 1, 0, none⟩ = some (.int .i64 x.day) := cell_of_block ZxW5.out 0 (by simp)
                                    have ex1W5 : W5.cell? ⟨w.heap.size + 1, 1, none⟩ = some (.int .i64 x.alo) := cell_of_block ZxW5.out 1 (by simp)
                                    have ex2W5 : W5.cell? ⟨w.heap.size + 1, 2, none⟩ = some (.int .i64 x.ahi) := cell_of_block ZxW5.out 2 (by simp)
                                    have ex3W5 : W5.cell? ⟨w.heap.size + 1, 3, none⟩ = some (.int .i64 x.wlo) := cell_of_block ZxW5.out 3 (by simp)
                                    have ex4W5 : W5.cell? ⟨w.heap.size + 1, 4, none⟩ = some (.int .i64 x.whi) := cell_of_block ZxW5.out 4 (by simp)
                                    have lxW5 := (Array.getElem?_eq_some_iff.1 ZxW5.out).1
                                    have el0W5 : W5.cell? ⟨W4.heap.size + z13.bs.size, 0, none⟩ = some (.int .i64 l.day) := cell_of_block ZlW5.out 0 (by simp)
                                    have el1W5 : W5.cell? ⟨W4.heap.size + z13.bs.size, 1, none⟩ = some (.int .i64 l.vlo) := cell_of_block ZlW5.out 1 (by simp)
                                    have el2W5 : W5.cell? ⟨W4.heap.size + z13.bs.size, 2, none⟩ = some (.int .i64 l.vhi) := cell_of_block ZlW5.out 2 (by simp)
                                    have el3W5 : W5.cell? ⟨W4.heap.size + z13.bs.size, 3, none⟩ = some (.int .i64 l.slo) := cell_of_block ZlW5.out 3 (by simp)
                                    have el4W5 : W5.cell? ⟨W4.heap.size + z13.bs.size, 4, none⟩ = some (.int .i64 l.shi) := cell_of_block ZlW5.out 4 (by simp)
                                    have llW5 := (Array.getElem?_eq_some_iff.1 ZlW5.out).1
                                    go_wp2_with fail
                                    refine (Calls.grown (SL'.out _ (S5.out))).mono ?_
                                    rintro e w1 ⟨rfl, z14, rfl⟩
                                    go_wp2_with fail
                                    refine (Calls.gw_of (AW'.out _)).mono ?_
                                    rintro e w1 ⟨rfl, z15, rfl⟩
                                    go_upto_region 20 with (fail)
                                    obtain ⟨W6, hW6⟩ : ∃ W6, ((gw W5 z15)).alloc (.cells #[.int .i64 q.day, .int .i64 q.vlo, .int .i64 q.vhi, .int .i64 q.slo, .int .i64 q.shi] 44) = W6 := ⟨_, rfl⟩
                                    have hbW6 : Below W5.heap.size W5 W6 := by rw [← hW6]; exact (below_gw W5 z15).alloc (by simp [gw_size]) _
                                    have ZcW6 := Lib.hid ((hbW6.block _ (Array.getElem?_eq_some_iff.1 ZcW5.out).1).trans ZcW5.out)
                                    have ZxW6 := Lib.hid ((hbW6.block _ (Array.getElem?_eq_some_iff.1 ZxW5.out).1).trans ZxW5.out)
                                    have ZmW6 := Lib.hid ((hbW6.block _ (Array.getElem?_eq_some_iff.1 ZmW5.out).1).trans ZmW5.out)
                                    have ZvW6 := Lib.hid ((hbW6.block _ (Array.getElem?_eq_some_iff.1 ZvW5.out).1).trans ZvW5.out)
                                    have ZlW6 := Lib.hid ((hbW6.block _ (Array.getElem?_eq_some_iff.1 ZlW5.out).1).trans ZlW5.out)
                                    have zqW6 : W6.heap[W5.heap.size + z15.bs.size]? = some (.cells #[.int .i64 q.day, .int .i64 q.vlo, .int .i64 q.vhi, .int .i64 q.slo, .int .i64 q.shi] 44 (0, 0)) := by rw [← hW6]; exact alloc_at (by simp [gw_size])
                                    have ZqW6 := Lib.hid zqW6; clear zqW6
                                    have HBW6 := Lib.hid (thru hbW6 HBW5.out)
                                    have SBW6 := Lib.hid hbW6; clear hbW6
                                    have HWW6 := Lib.hid hW6; clear hW6
                                    rw [HWW6.out]
                                    clear ec0W5 ec1W5 ec2W5 ex0W5 ex1W5 ex2W5 ex3W5 ex4W5 el0W5 el1W5 el2W5 el3W5 el4W5
                                    have S6 := Lib.hid (S5.out.trans (SBW6.out.mono S5.out.size))
                                    have ec0W6 : W6.cell? ⟨w.heap.size, 0, none⟩ = some (.int .i64 C.days) := cell_of_block ZcW6.out 0 (by simp)
                                    have ec1W6 : W6.cell? ⟨w.heap.size, 1, none⟩ = some (.slice C.aA C.nA C.cA) := cell_of_block ZcW6.out 1 (by simp)
                                    have ec2W6 : W6.cell? ⟨w.heap.size, 2, none⟩ = some (.slice C.aW C.nW C.cW) := cell_of_block ZcW6.out 2 (by simp)
                                    have lcW6 := (Array.getElem?_eq_some_iff.1 ZcW6.out).1
                                    have ex0W6 : W6.cell? ⟨w.heap.size + 1, 0, none⟩ = some (.int .i64 x.day) := cell_of_block ZxW6.out 0 (by simp)
                                    have ex1W6 : W6.cell? ⟨w.heap.size + 1, 1, none⟩ = some (.int .i64 x.alo) := cell_of_block ZxW6.out 1 (by simp)
                                    have ex2W6 : W6.cell? ⟨w.heap.size + 1, 2, none⟩ = some (.int .i64 x.ahi) := cell_of_block ZxW6.out 2 (by simp)
                                    have ex3W6 : W6.cell? ⟨w.heap.size + 1, 3, none⟩ = some (.int .i64 x.wlo) := cell_of_block ZxW6.out 3 (by simp)
                                    have ex4W6 : W6.cell? ⟨w.heap.size + 1, 4, none⟩ = some (.int .i64 x.whi) := cell_of_block ZxW6.out 4 (by simp)
                                    have lxW6 := (Array.getElem?_eq_some_iff.1 ZxW6.out).1
                                    have eq0W6 : W6.cell? ⟨W5.heap.size + z15.bs.size, 0, none⟩ = some (.int .i64 q.day) := cell_of_block ZqW6.out 0 (by simp)
                                    have eq1W6 : W6.cell? ⟨W5.heap.size + z15.bs.size, 1, none⟩ = some (.int .i64 q.vlo) := cell_of_block ZqW6.out 1 (by simp)
                                    have eq2W6 : W6.cell? ⟨W5.heap.size + z15.bs.size, 2, none⟩ = some (.int .i64 q.vhi) := cell_of_block ZqW6.out 2 (by simp)
                                    have eq3W6 : W6.cell? ⟨W5.heap.size + z15.bs.size, 3, none⟩ = some (.int .i64 q.slo) := cell_of_block ZqW6.out 3 (by simp)
                                    have eq4W6 : W6.cell? ⟨W5.heap.size + z15.bs.size, 4, none⟩ = some (.int .i64 q.shi) := cell_of_block ZqW6.out 4 (by simp)
                                    have lqW6 := (Array.getElem?_eq_some_iff.1 ZqW6.out).1
                                    go_wp2_with fail
                                    refine (Calls.grown (SW'.out _ (S6.out))).mono ?_
                                    rintro e w1 ⟨rfl, z16, rfl⟩
                                    go_wp2_with fail
                                    refine (Calls.gw_of (alive_any _)).mono ?_
                                    rintro e w1 ⟨rfl, z17, rfl⟩
                                    go_wp2_with fail
                                    go_ret
                                    exact ⟨rfl, HBW6.out.gw z17⟩
                              · cases hw : aroundB (a * (tk % 1001) / 1000) (t * (tk % 1001) / 1000 + ad) off with
                                | false =>
                                  as_aux_lemma =>
                                    rw [hl] at AL'
                                    rw [hw] at AW'
                                    have SL := HSH.out (aroundO day (a * (tk % 1001) / 1000) (t * (tk % 1001) / 1000) off)
                                    rw [f2, f1] at SL
                                    clear f1 f2
                                    clear FL FW hl hw
                                    generalize aroundO day (a * (tk % 1001) / 1000) (t * (tk % 1001) / 1000) off = l at *
                                    generalize aroundO day (a * (tk % 1001) / 1000) (t * (tk % 1001) / 1000 + ad) off = q at *
                                    unfold Reg.val at AL' AW'
                                    unfold Reg.val Cont.val at SL
                                    have SL' := Lib.hid SL; clear SL
                                    go_wp2_with fail
                                    refine wp_region_gw2 (by kernel_rfl) (by kernel_rfl) ?_
                                    repeat (go_big_quiet_step (first | (go_at_call 20; first | (with_reducible exact Calls.gw_of (I1'.out _)) | (with_reducible exact Calls.gw_of (I2'.out _))) | (go_at_call 28; with_reducible exact Calls.gw_of (LV'.out _ (SV.out.trans ((below_gw V _).mono SV.out.size))))))
                                    refine wpQuiet_nil ?_
                                    rintro _ ⟨z7, rfl⟩
                                    clear U1 U2 s0V
                                    go_wp2_with fail
                                    refine (Calls.gw_of (AR'.out _)).mono ?_
                                    rintro e w1 ⟨rfl, z8, rfl⟩
                                    go_upto_region 5 with (fail)
                                    obtain ⟨W2, hW2⟩ : ∃ W2, ((gw V z8)).alloc (.cells #[.int .i64 m.day, .int .i64 m.vlo, .int .i64 m.vhi, .int .i64 m.slo, .int .i64 m.shi] 44) = W2 := ⟨_, rfl⟩
                                    have hbW2 : Below V.heap.size V W2 := by rw [← hW2]; exact (below_gw V z8).alloc (by simp [gw_size]) _
                                    have ZcW2 := Lib.hid ((hbW2.block _ (Array.getElem?_eq_some_iff.1 ZV0.out).1).trans ZV0.out)
                                    have ZxW2 := Lib.hid ((hbW2.block _ (Array.getElem?_eq_some_iff.1 ZV1.out).1).trans ZV1.out)
                                    have zmW2 : W2.heap[V.heap.size + z8.bs.size]? = some (.cells #[.int .i64 m.day, .int .i64 m.vlo, .int .i64 m.vhi, .int .i64 m.slo, .int .i64 m.shi] 44 (0, 0)) := by rw [← hW2]; exact alloc_at (by simp [gw_size])
                                    have ZmW2 := Lib.hid zmW2; clear zmW2
                                    have HBW2 := Lib.hid (thru hbW2 HBV.out)
                                    have SBW2 := Lib.hid hbW2; clear hbW2
                                    have HWW2 := Lib.hid hW2; clear hW2
                                    rw [HWW2.out]
                                    clear e00 e01 e02 e10 e11 e12 e13 e14
                                    have S2 := Lib.hid (SV.out.trans (SBW2.out.mono SV.out.size))
                                    have ec0W2 : W2.cell? ⟨w.heap.size, 0, none⟩ = some (.int .i64 C.days) := cell_of_block ZcW2.out 0 (by simp)
                                    have ec1W2 : W2.cell? ⟨w.heap.size, 1, none⟩ = some (.slice C.aA C.nA C.cA) := cell_of_block ZcW2.out 1 (by simp)
                                    have ec2W2 : W2.cell? ⟨w.heap.size, 2, none⟩ = some (.slice C.aW C.nW C.cW) := cell_of_block ZcW2.out 2 (by simp)
                                    have lcW2 := (Array.getElem?_eq_some_iff.1 ZcW2.out).1
                                    have ex0W2 : W2.cell? ⟨w.heap.size + 1, 0, none⟩ = some (.int .i64 x.day) := cell_of_block ZxW2.out 0 (by simp)
                                    have ex1W2 : W2.cell? ⟨w.heap.size + 1, 1, none⟩ = some (.int .i64 x.alo) := cell_of_block ZxW2.out 1 (by simp)
                                    have ex2W2 : W2.cell? ⟨w.heap.size + 1, 2, none⟩ = some (.int .i64 x.ahi) := cell_of_block ZxW2.out 2 (by simp)
                                    have ex3W2 : W2.cell? ⟨w.heap.size + 1, 3, none⟩ = some (.int .i64 x.wlo) := cell_of_block ZxW2.out 3 (by simp)
                                    have ex4W2 : W2.cell? ⟨w.heap.size + 1, 4, none⟩ = some (.int .i64 x.whi) := cell_of_block ZxW2.out 4 (by simp)
                                    have lxW2 := (Array.getElem?_eq_some_iff.1 ZxW2.out).1
                                    have em0W2 : W2.cell? ⟨V.heap.size + z8.bs.size, 0, none⟩ = some (.int .i64 m.day) := cell_of_block ZmW2.out 0 (by simp)
                                    have em1W2 : W2.cell? ⟨V.heap.size + z8.bs.size, 1, none⟩ = some (.int .i64 m.vlo) := cell_of_block ZmW2.out 1 (by simp)
                                    have em2W2 : W2.cell? ⟨V.heap.size + z8.bs.size, 2, none⟩ = some (.int .i64 m.vhi) := cell_of_block ZmW2.out 2 (by simp)
                                    have em3W2 : W2.cell? ⟨V.heap.size + z8.bs.size, 3, none⟩ = some (.int .i64 m.slo) := cell_of_block ZmW2.out 3 (by simp)
                                    have em4W2 : W2.cell? ⟨V.heap.size + z8.bs.size, 4, none⟩ = some (.int .i64 m.shi) := cell_of_block ZmW2.out 4 (by simp)
                                    have lmW2 := (Array.getElem?_eq_some_iff.1 ZmW2.out).1
                                    go_wp2_with fail
                                    refine (Calls.grown (ME'.out _ (S2.out))).mono ?_
                                    rintro e w1 ⟨rfl, z9, rfl⟩
                                    go_upto_region 8 with (fail)
                                    obtain ⟨W3, hW3⟩ : ∃ W3, ((gw W2 z9)).alloc (.cells #[.int .i64 v.day, .int .i64 v.alo, .int .i64 v.ahi, .int .i64 v.wlo, .int .i64 v.whi] 28) = W3 := ⟨_, rfl⟩
                                    have hbW3 : Below W2.heap.size W2 W3 := by rw [← hW3]; exact (below_gw W2 z9).alloc (by simp [gw_size]) _
                                    have ZcW3 := Lib.hid ((hbW3.block _ (Array.getElem?_eq_some_iff.1 ZcW2.out).1).trans ZcW2.out)
                                    have ZxW3 := Lib.hid ((hbW3.block _ (Array.getElem?_eq_some_iff.1 ZxW2.out).1).trans ZxW2.out)
                                    have ZmW3 := Lib.hid ((hbW3.block _ (Array.getElem?_eq_some_iff.1 ZmW2.out).1).trans ZmW2.out)
                                    have zvW3 : W3.heap[W2.heap.size + z9.bs.size]? = some (.cells #[.int .i64 v.day, .int .i64 v.alo, .int .i64 v.ahi, .int .i64 v.wlo, .int .i64 v.whi] 28 (0, 0)) := by rw [← hW3]; exact alloc_at (by simp [gw_size])
                                    have ZvW3 := Lib.hid zvW3; clear zvW3
                                    have HBW3 := Lib.hid (thru hbW3 HBW2.out)
                                    have SBW3 := Lib.hid hbW3; clear hbW3
                                    have HWW3 := Lib.hid hW3; clear hW3
                                    rw [HWW3.out]
                                    clear ec0W2 ec1W2 ec2W2 ex0W2 ex1W2 ex2W2 ex3W2 ex4W2 em0W2 em1W2 em2W2 em3W2 em4W2
                                    have S3 := Lib.hid (S2.out.trans (SBW3.out.mono S2.out.size))
                                    have ec0W3 : W3.cell? ⟨w.heap.size, 0, none⟩ = some (.int .i64 C.days) := cell_of_block ZcW3.out 0 (by simp)
                                    have ec1W3 : W3.cell? ⟨w.heap.size, 1, none⟩ = some (.slice C.aA C.nA C.cA) := cell_of_block ZcW3.out 1 (by simp)
                                    have ec2W3 : W3.cell? ⟨w.heap.size, 2, none⟩ = some (.slice C.aW C.nW C.cW) := cell_of_block ZcW3.out 2 (by simp)
                                    have lcW3 := (Array.getElem?_eq_some_iff.1 ZcW3.out).1
                                    have ex0W3 : W3.cell? ⟨w.heap.size + 1, 0, none⟩ = some (.int .i64 x.day) := cell_of_block ZxW3.out 0 (by simp)
                                    have ex1W3 : W3.cell? ⟨w.heap.size + 1, 1, none⟩ = some (.int .i64 x.alo) := cell_of_block ZxW3.out 1 (by simp)
                                    have ex2W3 : W3.cell? ⟨w.heap.size + 1, 2, none⟩ = some (.int .i64 x.ahi) := cell_of_block ZxW3.out 2 (by simp)
                                    have ex3W3 : W3.cell? ⟨w.heap.size + 1, 3, none⟩ = some (.int .i64 x.wlo) := cell_of_block ZxW3.out 3 (by simp)
                                    have ex4W3 : W3.cell? ⟨w.heap.size + 1, 4, none⟩ = some (.int .i64 x.whi) := cell_of_block ZxW3.out 4 (by simp)
                                    have lxW3 := (Array.getElem?_eq_some_iff.1 ZxW3.out).1
                                    have em0W3 : W3.cell? ⟨V.heap.size + z8.bs.size, 0, none⟩ = some (.int .i64 m.day) := cell_of_block ZmW3.out 0 (by simp)
                                    have em1W3 : W3.cell? ⟨V.heap.size + z8.bs.size, 1, none⟩ = some (.int .i64 m.vlo) := cell_of_block ZmW3.out 1 (by simp)
                                    have em2W3 : W3.cell? ⟨V.heap.size + z8.bs.size, 2, none⟩ = some (.int .i64 m.vhi) := cell_of_block ZmW3.out 2 (by simp)
                                    have em3W3 : W3.cell? ⟨V.heap.size + z8.bs.size, 3, none⟩ = some (.int .i64 m.slo) := cell_of_block ZmW3.out 3 (by simp)
                                    have em4W3 : W3.cell? ⟨V.heap.size + z8.bs.size, 4, none⟩ = some (.int .i64 m.shi) := cell_of_block ZmW3.out 4 (by simp)
                                    have lmW3 := (Array.getElem?_eq_some_iff.1 ZmW3.out).1
                                    have ev0W3 : W3.cell? ⟨W2.heap.size + z9.bs.size, 0, none⟩ = some (.int .i64 v.day) := cell_of_block ZvW3.out 0 (by simp)
                                    have ev1W3 : W3.cell? ⟨W2.heap.size + z9.bs.size, 1, none⟩ = some (.int .i64 v.alo) := cell_of_block ZvW3.out 1 (by simp)
                                    have ev2W3 : W3.cell? ⟨W2.heap.size + z9.bs.size, 2, none⟩ = some (.int .i64 v.ahi) := cell_of_block ZvW3.out 2 (by simp)
                                    have ev3W3 : W3.cell? ⟨W2.heap.size + z9.bs.size, 3, none⟩ = some (.int .i64 v.wlo) := cell_of_block ZvW3.out 3 (by simp)
                                    have ev4W3 : W3.cell? ⟨W2.heap.size + z9.bs.size, 4, none⟩ = some (.int .i64 v.whi) := cell_of_block ZvW3.out 4 (by simp)
                                    have lvW3 := (Array.getElem?_eq_some_iff.1 ZvW3.out).1
                                    go_wp2_with fail
                                    refine (Calls.grown (SH'.out _ (S3.out))).mono ?_
                                    rintro e w1 ⟨rfl, z10, rfl⟩
                                    go_wp2_with fail
                                    refine (Calls.gw_of (has_true _ _ _ _ (by assumption) (by assumption))).mono ?_
                                    rintro e w1 ⟨rfl, z11, rfl⟩
                                    go_wp2_with fail
                                    refine (Calls.gw_of (has_true _ _ _ _ (by assumption) (by assumption))).mono ?_
                                    rintro e w1 ⟨rfl, z12, rfl⟩
                                    go_upto_region 11 with (fail)
                                    obtain ⟨W4, hW4⟩ : ∃ W4, gw W3 z12 = W4 := ⟨_, rfl⟩
                                    have hbW4 : Below W3.heap.size W3 W4 := by rw [← hW4]; exact below_gw W3 z12
                                    have ZcW4 := Lib.hid ((hbW4.block _ (Array.getElem?_eq_some_iff.1 ZcW3.out).1).trans ZcW3.out)
                                    have ZxW4 := Lib.hid ((hbW4.block _ (Array.getElem?_eq_some_iff.1 ZxW3.out).1).trans ZxW3.out)
                                    have ZmW4 := Lib.hid ((hbW4.block _ (Array.getElem?_eq_some_iff.1 ZmW3.out).1).trans ZmW3.out)
                                    have ZvW4 := Lib.hid ((hbW4.block _ (Array.getElem?_eq_some_iff.1 ZvW3.out).1).trans ZvW3.out)
                                    have HBW4 := Lib.hid (thru hbW4 HBW3.out)
                                    have SBW4 := Lib.hid hbW4; clear hbW4
                                    have HWW4 := Lib.hid hW4; clear hW4
                                    rw [HWW4.out]
                                    clear ec0W3 ec1W3 ec2W3 ex0W3 ex1W3 ex2W3 ex3W3 ex4W3 em0W3 em1W3 em2W3 em3W3 em4W3 ev0W3 ev1W3 ev2W3 ev3W3 ev4W3
                                    have S4 := Lib.hid (S3.out.trans (SBW4.out.mono S3.out.size))
                                    have ec0W4 : W4.cell? ⟨w.heap.size, 0, none⟩ = some (.int .i64 C.days) := cell_of_block ZcW4.out 0 (by simp)
                                    have ec1W4 : W4.cell? ⟨w.heap.size, 1, none⟩ = some (.slice C.aA C.nA C.cA) := cell_of_block ZcW4.out 1 (by simp)
                                    have ec2W4 : W4.cell? ⟨w.heap.size, 2, none⟩ = some (.slice C.aW C.nW C.cW) := cell_of_block ZcW4.out 2 (by simp)
                                    have lcW4 := (Array.getElem?_eq_some_iff.1 ZcW4.out).1
                                    have ex0W4 : W4.cell? ⟨w.heap.size + 1, 0, none⟩ = some (.int .i64 x.day) := cell_of_block ZxW4.out 0 (by simp)
                                    have ex1W4 : W4.cell? ⟨w.heap.size + 1, 1, none⟩ = some (.int .i64 x.alo) := cell_of_block ZxW4.out 1 (by simp)
                                    have ex2W4 : W4.cell? ⟨w.heap.size + 1, 2, none⟩ = some (.int .i64 x.ahi) := cell_of_block ZxW4.out 2 (by simp)
                                    have ex3W4 : W4.cell? ⟨w.heap.size + 1, 3, none⟩ = some (.int .i64 x.wlo) := cell_of_block ZxW4.out 3 (by simp)
                                    have ex4W4 : W4.cell? ⟨w.heap.size + 1, 4, none⟩ = some (.int .i64 x.whi) := cell_of_block ZxW4.out 4 (by simp)
                                    have lxW4 := (Array.getElem?_eq_some_iff.1 ZxW4.out).1
                                    go_wp2_with fail
                                    refine (Calls.grown (AL'.out _)).mono ?_
                                    rintro e w1 ⟨rfl, z13, rfl⟩
                                    go_upto_region 15 with (fail)
                                    obtain ⟨W5, hW5⟩ : ∃ W5, ((gw W4 z13)).alloc (.cells #[.int .i64 l.day, .int .i64 l.vlo, .int .i64 l.vhi, .int .i64 l.slo, .int .i64 l.shi] 44) = W5 := ⟨_, rfl⟩
                                    have hbW5 : Below W4.heap.size W4 W5 := by rw [← hW5]; exact (below_gw W4 z13).alloc (by simp [gw_size]) _
                                    have ZcW5 := Lib.hid ((hbW5.block _ (Array.getElem?_eq_some_iff.1 ZcW4.out).1).trans ZcW4.out)
                                    have ZxW5 := Lib.hid ((hbW5.block _ (Array.getElem?_eq_some_iff.1 ZxW4.out).1).trans ZxW4.out)
                                    have ZmW5 := Lib.hid ((hbW5.block _ (Array.getElem?_eq_some_iff.1 ZmW4.out).1).trans ZmW4.out)
                                    have ZvW5 := Lib.hid ((hbW5.block _ (Array.getElem?_eq_some_iff.1 ZvW4.out).1).trans ZvW4.out)
                                    have zlW5 : W5.heap[W4.heap.size + z13.bs.size]? = some (.cells #[.int .i64 l.day, .int .i64 l.vlo, .int .i64 l.vhi, .int .i64 l.slo, .int .i64 l.shi] 44 (0, 0)) := by rw [← hW5]; exact alloc_at (by simp [gw_size])
                                    have ZlW5 := Lib.hid zlW5; clear zlW5
                                    have HBW5 := Lib.hid (thru hbW5 HBW4.out)
                                    have SBW5 := Lib.hid hbW5; clear hbW5
                                    have HWW5 := Lib.hid hW5; clear hW5
                                    rw [HWW5.out]
                                    clear ec0W4 ec1W4 ec2W4 ex0W4 ex1W4 ex2W4 ex3W4 ex4W4
                                    have S5 := Lib.hid (S4.out.trans (SBW5.out.mono S4.out.size))
                                    have ec0W5 : W5.cell? ⟨w.heap.size, 0, none⟩ = some (.int .i64 C.days) := cell_of_block ZcW5.out 0 (by simp)
                                    have ec1W5 : W5.cell? ⟨w.heap.size, 1, none⟩ = some (.slice C.aA C.nA C.cA) := cell_of_block ZcW5.out 1 (by simp)
                                    have ec2W5 : W5.cell? ⟨w.heap.size, 2, none⟩ = some (.slice C.aW C.nW C.cW) := cell_of_block ZcW5.out 2 (by simp)
                                    have lcW5 := (Array.getElem?_eq_some_iff.1 ZcW5.out).1
                                    have ex0W5 : W5.cell? ⟨w.heap.size + 1, 0, none⟩ = some (.int .i64 x.day) := cell_of_block ZxW5.out 0 (by simp)
                                    have ex1W5 : W5.cell? ⟨w.heap.size + 1, 1, none⟩ = some (.int .i64 x.alo) := cell_of_block ZxW5.out 1 (by simp)
                                    have ex2W5 : W5.cell? ⟨w.heap.size + 1, 2, none⟩ = some (.int .i64 x.ahi) := cell_of_block ZxW5.out 2 (by simp)
                                    have ex3W5 : W5.cell? ⟨w.heap.size + 1, 3, none⟩ = some (.int .i64 x.wlo) := cell_of_block ZxW5.out 3 (by simp)
                                    have ex4W5 : W5.cell? ⟨w.heap.size + 1, 4, none⟩ = some (.int .i64 x.whi) := cell_of_block ZxW5.out 4 (by simp)
                                    have lxW5 := (Array.getElem?_eq_some_iff.1 ZxW5.out).1
                                    have el0W5 : W5.cell? ⟨W4.heap.size + z13.bs.size, 0, none⟩ = some (.int .i64 l.day) := cell_of_block ZlW5.out 0 (by simp)
                                    have el1W5 : W5.cell? ⟨W4.heap.size + z13.bs.size, 1, none⟩ = some (.int .i64 l.vlo) := cell_of_block ZlW5.out 1 (by simp)
                                    have el2W5 : W5.cell? ⟨W4.heap.size + z13.bs.size, 2, none⟩ = some (.int .i64 l.vhi) := cell_of_block ZlW5.out 2 (by simp)
                                    have el3W5 : W5.cell? ⟨W4.heap.size + z13.bs.size, 3, none⟩ = some (.int .i64 l.slo) := cell_of_block ZlW5.out 3 (by simp)
                                    have el4W5 : W5.cell? ⟨W4.heap.size + z13.bs.size, 4, none⟩ = some (.int .i64 l.shi) := cell_of_block ZlW5.out 4 (by simp)
                                    have llW5 := (Array.getElem?_eq_some_iff.1 ZlW5.out).1
                                    go_wp2_with fail
                                    refine (Calls.grown (SL'.out _ (S5.out))).mono ?_
                                    rintro e w1 ⟨rfl, z14, rfl⟩
                                    go_wp2_with fail
                                    refine (Calls.gw_of (AW'.out _)).mono ?_
                                    rintro e w1 ⟨rfl, z15, rfl⟩
                                    go_upto_region 20 with (fail)
                                    obtain ⟨W6, hW6⟩ : ∃ W6, ((gw W5 z15)).alloc (.cells #[.int .i64 q.day, .int .i64 q.vlo, .int .i64 q.vhi, .int .i64 q.slo, .int .i64 q.shi] 44) = W6 := ⟨_, rfl⟩
                                    have hbW6 : Below W5.heap.size W5 W6 := by rw [← hW6]; exact (below_gw W5 z15).alloc (by simp [gw_size]) _
                                    have ZcW6 := Lib.hid ((hbW6.block _ (Array.getElem?_eq_some_iff.1 ZcW5.out).1).trans ZcW5.out)
                                    have ZxW6 := Lib.hid ((hbW6.block _ (Array.getElem?_eq_some_iff.1 ZxW5.out).1).trans ZxW5.out)
                                    have ZmW6 := Lib.hid ((hbW6.block _ (Array.getElem?_eq_some_iff.1 ZmW5.out).1).trans ZmW5.out)
                                    have ZvW6 := Lib.hid ((hbW6.block _ (Array.getElem?_eq_some_iff.1 ZvW5.out).1).trans ZvW5.out)
                                    have ZlW6 := Lib.hid ((hbW6.block _ (Array.getElem?_eq_some_iff.1 ZlW5.out).1).trans ZlW5.out)
                                    have zqW6 : W6.heap[W5.heap.size + z15.bs.size]? = some (.cells #[.int .i64 q.day, .int .i64 q.vlo, .int .i64 q.vhi, .int .i64 q.slo, .int .i64 q.shi] 44 (0, 0)) := by rw [← hW6]; exact alloc_at (by simp [gw_size])
                                    have ZqW6 := Lib.hid zqW6; clear zqW6
                                    have HBW6 := Lib.hid (thru hbW6 HBW5.out)
                                    have SBW6 := Lib.hid hbW6; clear hbW6
                                    have HWW6 := Lib.hid hW6; clear hW6
                                    rw [HWW6.out]
                                    clear ec0W5 ec1W5 ec2W5 ex0W5 ex1W5 ex2W5 ex3W5 ex4W5 el0W5 el1W5 el2W5 el3W5 el4W5
                                    have S6 := Lib.hid (S5.out.trans (SBW6.out.mono S5.out.size))
                                    have ec0W6 : W6.cell? ⟨w.heap.size, 0, none⟩ = some (.int .i64 C.days) := cell_of_block ZcW6.out 0 (by simp)
                                    have ec1W6 : W6.cell? ⟨w.heap.size, 1, none⟩ = some (.slice C.aA C.nA C.cA) := cell_of_block ZcW6.out 1 (by simp)
                                    have ec2W6 : W6.cell? ⟨w.heap.size, 2, none⟩ = some (.slice C.aW C.nW C.cW) := cell_of_block ZcW6.out 2 (by simp)
                                    have lcW6 := (Array.getElem?_eq_some_iff.1 ZcW6.out).1
                                    have ex0W6 : W6.cell? ⟨w.heap.size + 1, 0, none⟩ = some (.int .i64 x.day) := cell_of_block ZxW6.out 0 (by simp)
                                    have ex1W6 : W6.cell? ⟨w.heap.size + 1, 1, none⟩ = some (.int .i64 x.alo) := cell_of_block ZxW6.out 1 (by simp)
                                    have ex2W6 : W6.cell? ⟨w.heap.size + 1, 2, none⟩ = some (.int .i64 x.ahi) := cell_of_block ZxW6.out 2 (by simp)
                                    have ex3W6 : W6.cell? ⟨w.heap.size + 1, 3, none⟩ = some (.int .i64 x.wlo) := cell_of_block ZxW6.out 3 (by simp)
                                    have ex4W6 : W6.cell? ⟨w.heap.size + 1, 4, none⟩ = some (.int .i64 x.whi) := cell_of_block ZxW6.out 4 (by simp)
                                    have lxW6 := (Array.getElem?_eq_some_iff.1 ZxW6.out).1
                                    have eq0W6 : W6.cell? ⟨W5.heap.size + z15.bs.size, 0, none⟩ = some (.int .i64 q.day) := cell_of_block ZqW6.out 0 (by simp)
                                    have eq1W6 : W6.cell? ⟨W5.heap.size + z15.bs.size, 1, none⟩ = some (.int .i64 q.vlo) := cell_of_block ZqW6.out 1 (by simp)
                                    have eq2W6 : W6.cell? ⟨W5.heap.size + z15.bs.size, 2, none⟩ = some (.int .i64 q.vhi) := cell_of_block ZqW6.out 2 (by simp)
                                    have eq3W6 : W6.cell? ⟨W5.heap.size + z15.bs.size, 3, none⟩ = some (.int .i64 q.slo) := cell_of_block ZqW6.out 3 (by simp)
                                    have eq4W6 : W6.cell? ⟨W5.heap.size + z15.bs.size, 4, none⟩ = some (.int .i64 q.shi) := cell_of_block ZqW6.out 4 (by simp)
                                    have lqW6 := (Array.getElem?_eq_some_iff.1 ZqW6.out).1
                                    go_wp2_with fail
                                    refine (Calls.grown (alive_any _)).mono ?_
                                    rintro e w1 ⟨rfl, z16, rfl⟩
                                    go_wp2_with fail
                                    go_ret
                                    exact ⟨rfl, HBW6.out.gw z16⟩
                                | true =>
                                  as_aux_lemma =>
                                    rw [hl] at AL'
                                    rw [hw] at AW'
                                    have SL := HSH.out (aroundO day (a * (tk % 1001) / 1000) (t * (tk % 1001) / 1000) off)
                                    rw [f2, f1] at SL
                                    clear f1 f2
                                    have SW := HSH.out (aroundO day (a * (tk % 1001) / 1000) (t * (tk % 1001) / 1000 + ad) off)
                                    obtain ⟨h1, h3⟩ := FW.out hw
                                    rw [h1] at SW
                                    clear h1
                                    generalize showV C x k F G (aroundO day (a * (tk % 1001) / 1000) (t * (tk % 1001) / 1000 + ad) off) = nw at *
                                    have nw3 : (nw != 3) = true := by simpa using h3
                                    clear h3
                                    clear FL FW hl hw
                                    generalize aroundO day (a * (tk % 1001) / 1000) (t * (tk % 1001) / 1000) off = l at *
                                    generalize aroundO day (a * (tk % 1001) / 1000) (t * (tk % 1001) / 1000 + ad) off = q at *
                                    unfold Reg.val at AL' AW'
                                    unfold Reg.val Cont.val at SL
                                    have SL' := Lib.hid SL; clear SL
                                    unfold Reg.val Cont.val at SW
                                    have SW' := Lib.hid SW; clear SW
                                    go_wp2_with fail
                                    refine wp_region_gw2 (by kernel_rfl) (by kernel_rfl) ?_
                                    repeat (go_big_quiet_step (first | (go_at_call 20; first | (with_reducible exact Calls.gw_of (I1'.out _)) | (with_reducible exact Calls.gw_of (I2'.out _))) | (go_at_call 28; with_reducible exact Calls.gw_of (LV'.out _ (SV.out.trans ((below_gw V _).mono SV.out.size))))))
                                    refine wpQuiet_nil ?_
                                    rintro _ ⟨z7, rfl⟩
                                    clear U1 U2 s0V
                                    go_wp2_with fail
                                    refine (Calls.gw_of (AR'.out _)).mono ?_
                                    rintro e w1 ⟨rfl, z8, rfl⟩
                                    go_upto_region 5 with (fail)
                                    obtain ⟨W2, hW2⟩ : ∃ W2, ((gw V z8)).alloc (.cells #[.int .i64 m.day, .int .i64 m.vlo, .int .i64 m.vhi, .int .i64 m.slo, .int .i64 m.shi] 44) = W2 := ⟨_, rfl⟩
                                    have hbW2 : Below V.heap.size V W2 := by rw [← hW2]; exact (below_gw V z8).alloc (by simp [gw_size]) _
                                    have ZcW2 := Lib.hid ((hbW2.block _ (Array.getElem?_eq_some_iff.1 ZV0.out).1).trans ZV0.out)
                                    have ZxW2 := Lib.hid ((hbW2.block _ (Array.getElem?_eq_some_iff.1 ZV1.out).1).trans ZV1.out)
                                    have zmW2 : W2.heap[V.heap.size + z8.bs.size]? = some (.cells #[.int .i64 m.day, .int .i64 m.vlo, .int .i64 m.vhi, .int .i64 m.slo, .int .i64 m.shi] 44 (0, 0)) := by rw [← hW2]; exact alloc_at (by simp [gw_size])
                                    have ZmW2 := Lib.hid zmW2; clear zmW2
                                    have HBW2 := Lib.hid (thru hbW2 HBV.out)
                                    have SBW2 := Lib.hid hbW2; clear hbW2
                                    have HWW2 := Lib.hid hW2; clear hW2
                                    rw [HWW2.out]
                                    clear e00 e01 e02 e10 e11 e12 e13 e14
                                    have S2 := Lib.hid (SV.out.trans (SBW2.out.mono SV.out.size))
                                    have ec0W2 : W2.cell? ⟨w.heap.size, 0, none⟩ = some (.int .i64 C.days) := cell_of_block ZcW2.out 0 (by simp)
                                    have ec1W2 : W2.cell? ⟨w.heap.size, 1, none⟩ = some (.slice C.aA C.nA C.cA) := cell_of_block ZcW2.out 1 (by simp)
                                    have ec2W2 : W2.cell? ⟨w.heap.size, 2, none⟩ = some (.slice C.aW C.nW C.cW) := cell_of_block ZcW2.out 2 (by simp)
                                    have lcW2 := (Array.getElem?_eq_some_iff.1 ZcW2.out).1
                                    have ex0W2 : W2.cell? ⟨w.heap.size + 1, 0, none⟩ = some (.int .i64 x.day) := cell_of_block ZxW2.out 0 (by simp)
                                    have ex1W2 : W2.cell? ⟨w.heap.size + 1, 1, none⟩ = some (.int .i64 x.alo) := cell_of_block ZxW2.out 1 (by simp)
                                    have ex2W2 : W2.cell? ⟨w.heap.size + 1, 2, none⟩ = some (.int .i64 x.ahi) := cell_of_block ZxW2.out 2 (by simp)
                                    have ex3W2 : W2.cell? ⟨w.heap.size + 1, 3, none⟩ = some (.int .i64 x.wlo) := cell_of_block ZxW2.out 3 (by simp)
                                    have ex4W2 : W2.cell? ⟨w.heap.size + 1, 4, none⟩ = some (.int .i64 x.whi) := cell_of_block ZxW2.out 4 (by simp)
                                    have lxW2 := (Array.getElem?_eq_some_iff.1 ZxW2.out).1
                                    have em0W2 : W2.cell? ⟨V.heap.size + z8.bs.size, 0, none⟩ = some (.int .i64 m.day) := cell_of_block ZmW2.out 0 (by simp)
                                    have em1W2 : W2.cell? ⟨V.heap.size + z8.bs.size, 1, none⟩ = some (.int .i64 m.vlo) := cell_of_block ZmW2.out 1 (by simp)
                                    have em2W2 : W2.cell? ⟨V.heap.size + z8.bs.size, 2, none⟩ = some (.int .i64 m.vhi) := cell_of_block ZmW2.out 2 (by simp)
                                    have em3W2 : W2.cell? ⟨V.heap.size + z8.bs.size, 3, none⟩ = some (.int .i64 m.slo) := cell_of_block ZmW2.out 3 (by simp)
                                    have em4W2 : W2.cell? ⟨V.heap.size + z8.bs.size, 4, none⟩ = some (.int .i64 m.shi) := cell_of_block ZmW2.out 4 (by simp)
                                    have lmW2 := (Array.getElem?_eq_some_iff.1 ZmW2.out).1
                                    go_wp2_with fail
                                    refine (Calls.grown (ME'.out _ (S2.out))).mono ?_
                                    rintro e w1 ⟨rfl, z9, rfl⟩
                                    go_upto_region 8 with (fail)
                                    obtain ⟨W3, hW3⟩ : ∃ W3, ((gw W2 z9)).alloc (.cells #[.int .i64 v.day, .int .i64 v.alo, .int .i64 v.ahi, .int .i64 v.wlo, .int .i64 v.whi] 28) = W3 := ⟨_, rfl⟩
                                    have hbW3 : Below W2.heap.size W2 W3 := by rw [← hW3]; exact (below_gw W2 z9).alloc (by simp [gw_size]) _
                                    have ZcW3 := Lib.hid ((hbW3.block _ (Array.getElem?_eq_some_iff.1 ZcW2.out).1).trans ZcW2.out)
                                    have ZxW3 := Lib.hid ((hbW3.block _ (Array.getElem?_eq_some_iff.1 ZxW2.out).1).trans ZxW2.out)
                                    have ZmW3 := Lib.hid ((hbW3.block _ (Array.getElem?_eq_some_iff.1 ZmW2.out).1).trans ZmW2.out)
                                    have zvW3 : W3.heap[W2.heap.size + z9.bs.size]? = some (.cells #[.int .i64 v.day, .int .i64 v.alo, .int .i64 v.ahi, .int .i64 v.wlo, .int .i64 v.whi] 28 (0, 0)) := by rw [← hW3]; exact alloc_at (by simp [gw_size])
                                    have ZvW3 := Lib.hid zvW3; clear zvW3
                                    have HBW3 := Lib.hid (thru hbW3 HBW2.out)
                                    have SBW3 := Lib.hid hbW3; clear hbW3
                                    have HWW3 := Lib.hid hW3; clear hW3
                                    rw [HWW3.out]
                                    clear ec0W2 ec1W2 ec2W2 ex0W2 ex1W2 ex2W2 ex3W2 ex4W2 em0W2 em1W2 em2W2 em3W2 em4W2
                                    have S3 := Lib.hid (S2.out.trans (SBW3.out.mono S2.out.size))
                                    have ec0W3 : W3.cell? ⟨w.heap.size, 0, none⟩ = some (.int .i64 C.days) := cell_of_block ZcW3.out 0 (by simp)
                                    have ec1W3 : W3.cell? ⟨w.heap.size, 1, none⟩ = some (.slice C.aA C.nA C.cA) := cell_of_block ZcW3.out 1 (by simp)
                                    have ec2W3 : W3.cell? ⟨w.heap.size, 2, none⟩ = some (.slice C.aW C.nW C.cW) := cell_of_block ZcW3.out 2 (by simp)
                                    have lcW3 := (Array.getElem?_eq_some_iff.1 ZcW3.out).1
                                    have ex0W3 : W3.cell? ⟨w.heap.size + 1, 0, none⟩ = some (.int .i64 x.day) := cell_of_block ZxW3.out 0 (by simp)
                                    have ex1W3 : W3.cell? ⟨w.heap.size + 1, 1, none⟩ = some (.int .i64 x.alo) := cell_of_block ZxW3.out 1 (by simp)
                                    have ex2W3 : W3.cell? ⟨w.heap.size + 1, 2, none⟩ = some (.int .i64 x.ahi) := cell_of_block ZxW3.out 2 (by simp)
                                    have ex3W3 : W3.cell? ⟨w.heap.size + 1, 3, none⟩ = some (.int .i64 x.wlo) := cell_of_block ZxW3.out 3 (by simp)
                                    have ex4W3 : W3.cell? ⟨w.heap.size + 1, 4, none⟩ = some (.int .i64 x.whi) := cell_of_block ZxW3.out 4 (by simp)
                                    have lxW3 := (Array.getElem?_eq_some_iff.1 ZxW3.out).1
                                    have em0W3 : W3.cell? ⟨V.heap.size + z8.bs.size, 0, none⟩ = some (.int .i64 m.day) := cell_of_block ZmW3.out 0 (by simp)
                                    have em1W3 : W3.cell? ⟨V.heap.size + z8.bs.size, 1, none⟩ = some (.int .i64 m.vlo) := cell_of_block ZmW3.out 1 (by simp)
                                    have em2W3 : W3.cell? ⟨V.heap.size + z8.bs.size, 2, none⟩ = some (.int .i64 m.vhi) := cell_of_block ZmW3.out 2 (by simp)
                                    have em3W3 : W3.cell? ⟨V.heap.size + z8.bs.size, 3, none⟩ = some (.int .i64 m.slo) := cell_of_block ZmW3.out 3 (by simp)
                                    have em4W3 : W3.cell? ⟨V.heap.size + z8.bs.size, 4, none⟩ = some (.int .i64 m.shi) := cell_of_block ZmW3.out 4 (by simp)
                                    have lmW3 := (Array.getElem?_eq_some_iff.1 ZmW3.out).1
                                    have ev0W3 : W3.cell? ⟨W2.heap.size + z9.bs.size, 0, none⟩ = some (.int .i64 v.day) := cell_of_block ZvW3.out 0 (by simp)
                                    have ev1W3 : W3.cell? ⟨W2.heap.size + z9.bs.size, 1, none⟩ = some (.int .i64 v.alo) := cell_of_block ZvW3.out 1 (by simp)
                                    have ev2W3 : W3.cell? ⟨W2.heap.size + z9.bs.size, 2, none⟩ = some (.int .i64 v.ahi) := cell_of_block ZvW3.out 2 (by simp)
                                    have ev3W3 : W3.cell? ⟨W2.heap.size + z9.bs.size, 3, none⟩ = some (.int .i64 v.wlo) := cell_of_block ZvW3.out 3 (by simp)
                                    have ev4W3 : W3.cell? ⟨W2.heap.size + z9.bs.size, 4, none⟩ = some (.int .i64 v.whi) := cell_of_block ZvW3.out 4 (by simp)
                                    have lvW3 := (Array.getElem?_eq_some_iff.1 ZvW3.out).1
                                    go_wp2_with fail
                                    refine (Calls.grown (SH'.out _ (S3.out))).mono ?_
                                    rintro e w1 ⟨rfl, z10, rfl⟩
                                    go_wp2_with fail
                                    refine (Calls.gw_of (has_true _ _ _ _ (by assumption) (by assumption))).mono ?_
                                    rintro e w1 ⟨rfl, z11, rfl⟩
                                    go_wp2_with fail
                                    refine (Calls.gw_of (has_true _ _ _ _ (by assumption) (by assumption))).mono ?_
                                    rintro e w1 ⟨rfl, z12, rfl⟩
                                    go_upto_region 11 with (fail)
                                    obtain ⟨W4, hW4⟩ : ∃ W4, gw W3 z12 = W4 := ⟨_, rfl⟩
                                    have hbW4 : Below W3.heap.size W3 W4 := by rw [← hW4]; exact below_gw W3 z12
                                    have ZcW4 := Lib.hid ((hbW4.block _ (Array.getElem?_eq_some_iff.1 ZcW3.out).1).trans ZcW3.out)
                                    have ZxW4 := Lib.hid ((hbW4.block _ (Array.getElem?_eq_some_iff.1 ZxW3.out).1).trans ZxW3.out)
                                    have ZmW4 := Lib.hid ((hbW4.block _ (Array.getElem?_eq_some_iff.1 ZmW3.out).1).trans ZmW3.out)
                                    have ZvW4 := Lib.hid ((hbW4.block _ (Array.getElem?_eq_some_iff.1 ZvW3.out).1).trans ZvW3.out)
                                    have HBW4 := Lib.hid (thru hbW4 HBW3.out)
                                    have SBW4 := Lib.hid hbW4; clear hbW4
                                    have HWW4 := Lib.hid hW4; clear hW4
                                    rw [HWW4.out]
                                    clear ec0W3 ec1W3 ec2W3 ex0W3 ex1W3 ex2W3 ex3W3 ex4W3 em0W3 em1W3 em2W3 em3W3 em4W3 ev0W3 ev1W3 ev2W3 ev3W3 ev4W3
                                    have S4 := Lib.hid (S3.out.trans (SBW4.out.mono S3.out.size))
                                    have ec0W4 : W4.cell? ⟨w.heap.size, 0, none⟩ = some (.int .i64 C.days) := cell_of_block ZcW4.out 0 (by simp)
                                    have ec1W4 : W4.cell? ⟨w.heap.size, 1, none⟩ = some (.slice C.aA C.nA C.cA) := cell_of_block ZcW4.out 1 (by simp)
                                    have ec2W4 : W4.cell? ⟨w.heap.size, 2, none⟩ = some (.slice C.aW C.nW C.cW) := cell_of_block ZcW4.out 2 (by simp)
                                    have lcW4 := (Array.getElem?_eq_some_iff.1 ZcW4.out).1
                                    have ex0W4 : W4.cell? ⟨w.heap.size + 1, 0, none⟩ = some (.int .i64 x.day) := cell_of_block ZxW4.out 0 (by simp)
                                    have ex1W4 : W4.cell? ⟨w.heap.size + 1, 1, none⟩ = some (.int .i64 x.alo) := cell_of_block ZxW4.out 1 (by simp)
                                    have ex2W4 : W4.cell? ⟨w.heap.size + 1, 2, none⟩ = some (.int .i64 x.ahi) := cell_of_block ZxW4.out 2 (by simp)
                                    have ex3W4 : W4.cell? ⟨w.heap.size + 1, 3, none⟩ = some (.int .i64 x.wlo) := cell_of_block ZxW4.out 3 (by simp)
                                    have ex4W4 : W4.cell? ⟨w.heap.size + 1, 4, none⟩ = some (.int .i64 x.whi) := cell_of_block ZxW4.out 4 (by simp)
                                    have lxW4 := (Array.getElem?_eq_some_iff.1 ZxW4.out).1
                                    go_wp2_with fail
                                    refine (Calls.grown (AL'.out _)).mono ?_
                                    rintro e w1 ⟨rfl, z13, rfl⟩
                                    go_upto_region 15 with (fail)
                                    obtain ⟨W5, hW5⟩ : ∃ W5, ((gw W4 z13)).alloc (.cells #[.int .i64 l.day, .int .i64 l.vlo, .int .i64 l.vhi, .int .i64 l.slo, .int .i64 l.shi] 44) = W5 := ⟨_, rfl⟩
                                    have hbW5 : Below W4.heap.size W4 W5 := by rw [← hW5]; exact (below_gw W4 z13).alloc (by simp [gw_size]) _
                                    have ZcW5 := Lib.hid ((hbW5.block _ (Array.getElem?_eq_some_iff.1 ZcW4.out).1).trans ZcW4.out)
                                    have ZxW5 := Lib.hid ((hbW5.block _ (Array.getElem?_eq_some_iff.1 ZxW4.out).1).trans ZxW4.out)
                                    have ZmW5 := Lib.hid ((hbW5.block _ (Array.getElem?_eq_some_iff.1 ZmW4.out).1).trans ZmW4.out)
                                    have ZvW5 := Lib.hid ((hbW5.block _ (Array.getElem?_eq_some_iff.1 ZvW4.out).1).trans ZvW4.out)
                                    have zlW5 : W5.heap[W4.heap.size + z13.bs.size]? = some (.cells #[.int .i64 l.day, .int .i64 l.vlo, .int .i64 l.vhi, .int .i64 l.slo, .int .i64 l.shi] 44 (0, 0)) := by rw [← hW5]; exact alloc_at (by simp [gw_size])
                                    have ZlW5 := Lib.hid zlW5; clear zlW5
                                    have HBW5 := Lib.hid (thru hbW5 HBW4.out)
                                    have SBW5 := Lib.hid hbW5; clear hbW5
                                    have HWW5 := Lib.hid hW5; clear hW5
                                    rw [HWW5.out]
                                    clear ec0W4 ec1W4 ec2W4 ex0W4 ex1W4 ex2W4 ex3W4 ex4W4
                                    have S5 := Lib.hid (S4.out.trans (SBW5.out.mono S4.out.size))
                                    have ec0W5 : W5.cell? ⟨w.heap.size, 0, none⟩ = some (.int .i64 C.days) := cell_of_block ZcW5.out 0 (by simp)
                                    have ec1W5 : W5.cell? ⟨w.heap.size, 1, none⟩ = some (.slice C.aA C.nA C.cA) := cell_of_block ZcW5.out 1 (by simp)
                                    have ec2W5 : W5.cell? ⟨w.heap.size, 2, none⟩ = some (.slice C.aW C.nW C.cW) := cell_of_block ZcW5.out 2 (by simp)
                                    have lcW5 := (Array.getElem?_eq_some_iff.1 ZcW5.out).1
                                    have ex0W5 : W5.cell? ⟨w.heap.size + 1, 0, none⟩ = some (.int .i64 x.day) := cell_of_block ZxW5.out 0 (by simp)
                                    have ex1W5 : W5.cell? ⟨w.heap.size + 1, 1, none⟩ = some (.int .i64 x.alo) := cell_of_block ZxW5.out 1 (by simp)
                                    have ex2W5 : W5.cell? ⟨w.heap.size + 1, 2, none⟩ = some (.int .i64 x.ahi) := cell_of_block ZxW5.out 2 (by simp)
                                    have ex3W5 : W5.cell? ⟨w.heap.size + 1, 3, none⟩ = some (.int .i64 x.wlo) := cell_of_block ZxW5.out 3 (by simp)
                                    have ex4W5 : W5.cell? ⟨w.heap.size + 1, 4, none⟩ = some (.int .i64 x.whi) := cell_of_block ZxW5.out 4 (by simp)
                                    have lxW5 := (Array.getElem?_eq_some_iff.1 ZxW5.out).1
                                    have el0W5 : W5.cell? ⟨W4.heap.size + z13.bs.size, 0, none⟩ = some (.int .i64 l.day) := cell_of_block ZlW5.out 0 (by simp)
                                    have el1W5 : W5.cell? ⟨W4.heap.size + z13.bs.size, 1, none⟩ = some (.int .i64 l.vlo) := cell_of_block ZlW5.out 1 (by simp)
                                    have el2W5 : W5.cell? ⟨W4.heap.size + z13.bs.size, 2, none⟩ = some (.int .i64 l.vhi) := cell_of_block ZlW5.out 2 (by simp)
                                    have el3W5 : W5.cell? ⟨W4.heap.size + z13.bs.size, 3, none⟩ = some (.int .i64 l.slo) := cell_of_block ZlW5.out 3 (by simp)
                                    have el4W5 : W5.cell? ⟨W4.heap.size + z13.bs.size, 4, none⟩ = some (.int .i64 l.shi) := cell_of_block ZlW5.out 4 (by simp)
                                    have llW5 := (Array.getElem?_eq_some_iff.1 ZlW5.out).1
                                    go_wp2_with fail
                                    refine (Calls.grown (SL'.out _ (S5.out))).mono ?_
                                    rintro e w1 ⟨rfl, z14, rfl⟩
                                    go_wp2_with fail
                                    refine (Calls.gw_of (AW'.out _)).mono ?_
                                    rintro e w1 ⟨rfl, z15, rfl⟩
                                    go_upto_region 20 with (fail)
                                    obtain ⟨W6, hW6⟩ : ∃ W6, ((gw W5 z15)).alloc (.cells #[.int .i64 q.day, .int .i64 q.vlo, .int .i64 q.vhi, .int .i64 q.slo, .int .i64 q.shi] 44) = W6 := ⟨_, rfl⟩
                                    have hbW6 : Below W5.heap.size W5 W6 := by rw [← hW6]; exact (below_gw W5 z15).alloc (by simp [gw_size]) _
                                    have ZcW6 := Lib.hid ((hbW6.block _ (Array.getElem?_eq_some_iff.1 ZcW5.out).1).trans ZcW5.out)
                                    have ZxW6 := Lib.hid ((hbW6.block _ (Array.getElem?_eq_some_iff.1 ZxW5.out).1).trans ZxW5.out)
                                    have ZmW6 := Lib.hid ((hbW6.block _ (Array.getElem?_eq_some_iff.1 ZmW5.out).1).trans ZmW5.out)
                                    have ZvW6 := Lib.hid ((hbW6.block _ (Array.getElem?_eq_some_iff.1 ZvW5.out).1).trans ZvW5.out)
                                    have ZlW6 := Lib.hid ((hbW6.block _ (Array.getElem?_eq_some_iff.1 ZlW5.out).1).trans ZlW5.out)
                                    have zqW6 : W6.heap[W5.heap.size + z15.bs.size]? = some (.cells #[.int .i64 q.day, .int .i64 q.vlo, .int .i64 q.vhi, .int .i64 q.slo, .int .i64 q.shi] 44 (0, 0)) := by rw [← hW6]; exact alloc_at (by simp [gw_size])
                                    have ZqW6 := Lib.hid zqW6; clear zqW6
                                    have HBW6 := Lib.hid (thru hbW6 HBW5.out)
                                    have SBW6 := Lib.hid hbW6; clear hbW6
                                    have HWW6 := Lib.hid hW6; clear hW6
                                    rw [HWW6.out]
                                    clear ec0W5 ec1W5 ec2W5 ex0W5 ex1W5 ex2W5 ex3W5 ex4W5 el0W5 el1W5 el2W5 el3W5 el4W5
                                    have S6 := Lib.hid (S5.out.trans (SBW6.out.mono S5.out.size))
                                    have ec0W6 : W6.cell? ⟨w.heap.size, 0, none⟩ = some (.int .i64 C.days) := cell_of_block ZcW6.out 0 (by simp)
                                    have ec1W6 : W6.cell? ⟨w.heap.size, 1, none⟩ = some (.slice C.aA C.nA C.cA) := cell_of_block ZcW6.out 1 (by simp)
                                    have ec2W6 : W6.cell? ⟨w.heap.size, 2, none⟩ = some (.slice C.aW C.nW C.cW) := cell_of_block ZcW6.out 2 (by simp)
                                    have lcW6 := (Array.getElem?_eq_some_iff.1 ZcW6.out).1
                                    have ex0W6 : W6.cell? ⟨w.heap.size + 1, 0, none⟩ = some (.int .i64 x.day) := cell_of_block ZxW6.out 0 (by simp)
                                    have ex1W6 : W6.cell? ⟨w.heap.size + 1, 1, none⟩ = some (.int .i64 x.alo) := cell_of_block ZxW6.out 1 (by simp)
                                    have ex2W6 : W6.cell? ⟨w.heap.size + 1, 2, none⟩ = some (.int .i64 x.ahi) := cell_of_block ZxW6.out 2 (by simp)
                                    have ex3W6 : W6.cell? ⟨w.heap.size + 1, 3, none⟩ = some (.int .i64 x.wlo) := cell_of_block ZxW6.out 3 (by simp)
                                    have ex4W6 : W6.cell? ⟨w.heap.size + 1, 4, none⟩ = some (.int .i64 x.whi) := cell_of_block ZxW6.out 4 (by simp)
                                    have lxW6 := (Array.getElem?_eq_some_iff.1 ZxW6.out).1
                                    have eq0W6 : W6.cell? ⟨W5.heap.size + z15.bs.size, 0, none⟩ = some (.int .i64 q.day) := cell_of_block ZqW6.out 0 (by simp)
                                    have eq1W6 : W6.cell? ⟨W5.heap.size + z15.bs.size, 1, none⟩ = some (.int .i64 q.vlo) := cell_of_block ZqW6.out 1 (by simp)
                                    have eq2W6 : W6.cell? ⟨W5.heap.size + z15.bs.size, 2, none⟩ = some (.int .i64 q.vhi) := cell_of_block ZqW6.out 2 (by simp)
                                    have eq3W6 : W6.cell? ⟨W5.heap.size + z15.bs.size, 3, none⟩ = some (.int .i64 q.slo) := cell_of_block ZqW6.out 3 (by simp)
                                    have eq4W6 : W6.cell? ⟨W5.heap.size + z15.bs.size, 4, none⟩ = some (.int .i64 q.shi) := cell_of_block ZqW6.out 4 (by simp)
                                    have lqW6 := (Array.getElem?_eq_some_iff.1 ZqW6.out).1
                                    go_wp2_with fail
                                    refine (Calls.grown (SW'.out _ (S6.out))).mono ?_
                                    rintro e w1 ⟨rfl, z16, rfl⟩
                                    go_wp2_with fail
                                    refine (Calls.gw_of (alive_any _)).mono ?_
                                    rintro e w1 ⟨rfl, z17, rfl⟩
                                    go_wp2_with fail
                                    go_ret
                                    exact ⟨rfl, HBW6.out.gw z17⟩
                          · have e1k : (a * (tk % 1001) % 1000 != 0) = false := by simp [p1]
                            have e2k : (t * (tk % 1001) % 1000 != 0) = true := by simp [p2]
                            clear p1 p2
                            go_wp2_with fail
                            refine wp_region_gw2 (by kernel_rfl) (by kernel_rfl) ?_
                            repeat (go_big_quiet_step (first | (go_at_call 20; first | (with_reducible exact Calls.gw_of (I1'.out _)) | (with_reducible exact Calls.gw_of (I2'.out _))) | (go_at_call 28; with_reducible exact Calls.gw_of (LV'.out _ (SV.out.trans ((below_gw V _).mono SV.out.size))))))
                            refine wpQuiet_nil ?_
                            rintro _ ⟨z7, rfl⟩
                            clear U1 U2 s0V
                            go_wp2_with fail
                            refine (Calls.gw_of (AR'.out _)).mono ?_
                            rintro e w1 ⟨rfl, z8, rfl⟩
                            go_upto_region 5 with (fail)
                            obtain ⟨W2, hW2⟩ : ∃ W2, ((gw V z8)).alloc (.cells #[.int .i64 m.day, .int .i64 m.vlo, .int .i64 m.vhi, .int .i64 m.slo, .int .i64 m.shi] 44) = W2 := ⟨_, rfl⟩
                            have hbW2 : Below V.heap.size V W2 := by rw [← hW2]; exact (below_gw V z8).alloc (by simp [gw_size]) _
                            have ZcW2 := Lib.hid ((hbW2.block _ (Array.getElem?_eq_some_iff.1 ZV0.out).1).trans ZV0.out)
                            have ZxW2 := Lib.hid ((hbW2.block _ (Array.getElem?_eq_some_iff.1 ZV1.out).1).trans ZV1.out)
                            have zmW2 : W2.heap[V.heap.size + z8.bs.size]? = some (.cells #[.int .i64 m.day, .int .i64 m.vlo, .int .i64 m.vhi, .int .i64 m.slo, .int .i64 m.shi] 44 (0, 0)) := by rw [← hW2]; exact alloc_at (by simp [gw_size])
                            have ZmW2 := Lib.hid zmW2; clear zmW2
                            have HBW2 := Lib.hid (thru hbW2 HBV.out)
                            have SBW2 := Lib.hid hbW2; clear hbW2
                            have HWW2 := Lib.hid hW2; clear hW2
                            rw [HWW2.out]
                            clear e00 e01 e02 e10 e11 e12 e13 e14
                            have S2 := Lib.hid (SV.out.trans (SBW2.out.mono SV.out.size))
                            have ec0W2 : W2.cell? ⟨w.heap.size, 0, none⟩ = some (.int .i64 C.days) := cell_of_block ZcW2.out 0 (by simp)
                            have ec1W2 : W2.cell? ⟨w.heap.size, 1, none⟩ = some (.slice C.aA C.nA C.cA) := cell_of_block ZcW2.out 1 (by simp)
                            have ec2W2 : W2.cell? ⟨w.heap.size, 2, none⟩ = some (.slice C.aW C.nW C.cW) := cell_of_block ZcW2.out 2 (by simp)
                            have lcW2 := (Array.getElem?_eq_some_iff.1 ZcW2.out).1
                            have ex0W2 : W2.cell? ⟨w.heap.size + 1, 0, none⟩ = some (.int .i64 x.day) := cell_of_block ZxW2.out 0 (by simp)
                            have ex1W2 : W2.cell? ⟨w.heap.size + 1, 1, none⟩ = some (.int .i64 x.alo) := cell_of_block ZxW2.out 1 (by simp)
                            have ex2W2 : W2.cell? ⟨w.heap.size + 1, 2, none⟩ = some (.int .i64 x.ahi) := cell_of_block ZxW2.out 2 (by simp)
                            have ex3W2 : W2.cell? ⟨w.heap.size + 1, 3, none⟩ = some (.int .i64 x.wlo) := cell_of_block ZxW2.out 3 (by simp)
                            have ex4W2 : W2.cell? ⟨w.heap.size + 1, 4, none⟩ = some (.int .i64 x.whi) := cell_of_block ZxW2.out 4 (by simp)
                            have lxW2 := (Array.getElem?_eq_some_iff.1 ZxW2.out).1
                            have em0W2 : W2.cell? ⟨V.heap.size + z8.bs.size, 0, none⟩ = some (.int .i64 m.day) := cell_of_block ZmW2.out 0 (by simp)
                            have em1W2 : W2.cell? ⟨V.heap.size + z8.bs.size, 1, none⟩ = some (.int .i64 m.vlo) := cell_of_block ZmW2.out 1 (by simp)
                            have em2W2 : W2.cell? ⟨V.heap.size + z8.bs.size, 2, none⟩ = some (.int .i64 m.vhi) := cell_of_block ZmW2.out 2 (by simp)
                            have em3W2 : W2.cell? ⟨V.heap.size + z8.bs.size, 3, none⟩ = some (.int .i64 m.slo) := cell_of_block ZmW2.out 3 (by simp)
                            have em4W2 : W2.cell? ⟨V.heap.size + z8.bs.size, 4, none⟩ = some (.int .i64 m.shi) := cell_of_block ZmW2.out 4 (by simp)
                            have lmW2 := (Array.getElem?_eq_some_iff.1 ZmW2.out).1
                            go_wp2_with fail
                            refine (Calls.grown (ME'.out _ (S2.out))).mono ?_
                            rintro e w1 ⟨rfl, z9, rfl⟩
                            go_upto_region 8 with (fail)
                            obtain ⟨W3, hW3⟩ : ∃ W3, ((gw W2 z9)).alloc (.cells #[.int .i64 v.day, .int .i64 v.alo, .int .i64 v.ahi, .int .i64 v.wlo, .int .i64 v.whi] 28) = W3 := ⟨_, rfl⟩
                            have hbW3 : Below W2.heap.size W2 W3 := by rw [← hW3]; exact (below_gw W2 z9).alloc (by simp [gw_size]) _
                            have ZcW3 := Lib.hid ((hbW3.block _ (Array.getElem?_eq_some_iff.1 ZcW2.out).1).trans ZcW2.out)
                            have ZxW3 := Lib.hid ((hbW3.block _ (Array.getElem?_eq_some_iff.1 ZxW2.out).1).trans ZxW2.out)
                            have ZmW3 := Lib.hid ((hbW3.block _ (Array.getElem?_eq_some_iff.1 ZmW2.out).1).trans ZmW2.out)
                            have zvW3 : W3.heap[W2.heap.size + z9.bs.size]? = some (.cells #[.int .i64 v.day, .int .i64 v.alo, .int .i64 v.ahi, .int .i64 v.wlo, .int .i64 v.whi] 28 (0, 0)) := by rw [← hW3]; exact alloc_at (by simp [gw_size])
                            have ZvW3 := Lib.hid zvW3; clear zvW3
                            have HBW3 := Lib.hid (thru hbW3 HBW2.out)
                            have SBW3 := Lib.hid hbW3; clear hbW3
                            have HWW3 := Lib.hid hW3; clear hW3
                            rw [HWW3.out]
                            clear ec0W2 ec1W2 ec2W2 ex0W2 ex1W2 ex2W2 ex3W2 ex4W2 em0W2 em1W2 em2W2 em3W2 em4W2
                            have S3 := Lib.hid (S2.out.trans (SBW3.out.mono S2.out.size))
                            have ec0W3 : W3.cell? ⟨w.heap.size, 0, none⟩ = some (.int .i64 C.days) := cell_of_block ZcW3.out 0 (by simp)
                            have ec1W3 : W3.cell? ⟨w.heap.size, 1, none⟩ = some (.slice C.aA C.nA C.cA) := cell_of_block ZcW3.out 1 (by simp)
                            have ec2W3 : W3.cell? ⟨w.heap.size, 2, none⟩ = some (.slice C.aW C.nW C.cW) := cell_of_block ZcW3.out 2 (by simp)
                            have lcW3 := (Array.getElem?_eq_some_iff.1 ZcW3.out).1
                            have ex0W3 : W3.cell? ⟨w.heap.size + 1, 0, none⟩ = some (.int .i64 x.day) := cell_of_block ZxW3.out 0 (by simp)
                            have ex1W3 : W3.cell? ⟨w.heap.size + 1, 1, none⟩ = some (.int .i64 x.alo) := cell_of_block ZxW3.out 1 (by simp)
                            have ex2W3 : W3.cell? ⟨w.heap.size + 1, 2, none⟩ = some (.int .i64 x.ahi) := cell_of_block ZxW3.out 2 (by simp)
                            have ex3W3 : W3.cell? ⟨w.heap.size + 1, 3, none⟩ = some (.int .i64 x.wlo) := cell_of_block ZxW3.out 3 (by simp)
                            have ex4W3 : W3.cell? ⟨w.heap.size + 1, 4, none⟩ = some (.int .i64 x.whi) := cell_of_block ZxW3.out 4 (by simp)
                            have lxW3 := (Array.getElem?_eq_some_iff.1 ZxW3.out).1
                            have em0W3 : W3.cell? ⟨V.heap.size + z8.bs.size, 0, none⟩ = some (.int .i64 m.day) := cell_of_block ZmW3.out 0 (by simp)
                            have em1W3 : W3.cell? ⟨V.heap.size + z8.bs.size, 1, none⟩ = some (.int .i64 m.vlo) := cell_of_block ZmW3.out 1 (by simp)
                            have em2W3 : W3.cell? ⟨V.heap.size + z8.bs.size, 2, none⟩ = some (.int .i64 m.vhi) := cell_of_block ZmW3.out 2 (by simp)
                            have em3W3 : W3.cell? ⟨V.heap.size + z8.bs.size, 3, none⟩ = some (.int .i64 m.slo) := cell_of_block ZmW3.out 3 (by simp)
                            have em4W3 : W3.cell? ⟨V.heap.size + z8.bs.size, 4, none⟩ = some (.int .i64 m.shi) := cell_of_block ZmW3.out 4 (by simp)
                            have lmW3 := (Array.getElem?_eq_some_iff.1 ZmW3.out).1
                            have ev0W3 : W3.cell? ⟨W2.heap.size + z9.bs.size, 0, none⟩ = some (.int .i64 v.day) := cell_of_block ZvW3.out 0 (by simp)
                            have ev1W3 : W3.cell? ⟨W2.heap.size + z9.bs.size, 1, none⟩ = some (.int .i64 v.alo) := cell_of_block ZvW3.out 1 (by simp)
                            have ev2W3 : W3.cell? ⟨W2.heap.size + z9.bs.size, 2, none⟩ = some (.int .i64 v.ahi) := cell_of_block ZvW3.out 2 (by simp)
                            have ev3W3 : W3.cell? ⟨W2.heap.size + z9.bs.size, 3, none⟩ = some (.int .i64 v.wlo) := cell_of_block ZvW3.out 3 (by simp)
                            have ev4W3 : W3.cell? ⟨W2.heap.size + z9.bs.size, 4, none⟩ = some (.int .i64 v.whi) := cell_of_block ZvW3.out 4 (by simp)
                            have lvW3 := (Array.getElem?_eq_some_iff.1 ZvW3.out).1
                            go_wp2_with fail
                            refine (Calls.grown (SH'.out _ (S3.out))).mono ?_
                            rintro e w1 ⟨rfl, z10, rfl⟩
                            go_wp2_with fail
                            refine (Calls.gw_of (has_true _ _ _ _ (by assumption) (by assumption))).mono ?_
                            rintro e w1 ⟨rfl, z11, rfl⟩
                            go_wp2_with fail
                            refine (Calls.gw_of (has_true _ _ _ _ (by assumption) (by assumption))).mono ?_
                            rintro e w1 ⟨rfl, z12, rfl⟩
                            go_wp2_with fail
                            refine (Calls.gw_of (alive_any _)).mono ?_
                            rintro e w1 ⟨rfl, z13, rfl⟩
                            go_wp2_with fail
                            go_ret
                            exact ⟨rfl, HBW3.out.gw z13⟩
                        · have e1k : (a * (tk % 1001) % 1000 != 0) = true := by simp [p1]
                          clear p1
                          go_wp2_with fail
                          refine wp_region_gw2 (by kernel_rfl) (by kernel_rfl) ?_
                          repeat (go_big_quiet_step (first | (go_at_call 20; first | (with_reducible exact Calls.gw_of (I1'.out _)) | (with_reducible exact Calls.gw_of (I2'.out _))) | (go_at_call 28; with_reducible exact Calls.gw_of (LV'.out _ (SV.out.trans ((below_gw V _).mono SV.out.size))))))
                          refine wpQuiet_nil ?_
                          rintro _ ⟨z7, rfl⟩
                          clear U1 U2 s0V
                          go_wp2_with fail
                          refine (Calls.gw_of (AR'.out _)).mono ?_
                          rintro e w1 ⟨rfl, z8, rfl⟩
                          go_upto_region 5 with (fail)
                          obtain ⟨W2, hW2⟩ : ∃ W2, ((gw V z8)).alloc (.cells #[.int .i64 m.day, .int .i64 m.vlo, .int .i64 m.vhi, .int .i64 m.slo, .int .i64 m.shi] 44) = W2 := ⟨_, rfl⟩
                          have hbW2 : Below V.heap.size V W2 := by rw [← hW2]; exact (below_gw V z8).alloc (by simp [gw_size]) _
                          have ZcW2 := Lib.hid ((hbW2.block _ (Array.getElem?_eq_some_iff.1 ZV0.out).1).trans ZV0.out)
                          have ZxW2 := Lib.hid ((hbW2.block _ (Array.getElem?_eq_some_iff.1 ZV1.out).1).trans ZV1.out)
                          have zmW2 : W2.heap[V.heap.size + z8.bs.size]? = some (.cells #[.int .i64 m.day, .int .i64 m.vlo, .int .i64 m.vhi, .int .i64 m.slo, .int .i64 m.shi] 44 (0, 0)) := by rw [← hW2]; exact alloc_at (by simp [gw_size])
                          have ZmW2 := Lib.hid zmW2; clear zmW2
                          have HBW2 := Lib.hid (thru hbW2 HBV.out)
                          have SBW2 := Lib.hid hbW2; clear hbW2
                          have HWW2 := Lib.hid hW2; clear hW2
                          rw [HWW2.out]
                          clear e00 e01 e02 e10 e11 e12 e13 e14
                          have S2 := Lib.hid (SV.out.trans (SBW2.out.mono SV.out.size))
                          have ec0W2 : W2.cell? ⟨w.heap.size, 0, none⟩ = some (.int .i64 C.days) := cell_of_block ZcW2.out 0 (by simp)
                          have ec1W2 : W2.cell? ⟨w.heap.size, 1, none⟩ = some (.slice C.aA C.nA C.cA) := cell_of_block ZcW2.out 1 (by simp)
                          have ec2W2 : W2.cell? ⟨w.heap.size, 2, none⟩ = some (.slice C.aW C.nW C.cW) := cell_of_block ZcW2.out 2 (by simp)
                          have lcW2 := (Array.getElem?_eq_some_iff.1 ZcW2.out).1
                          have ex0W2 : W2.cell? ⟨w.heap.size + 1, 0, none⟩ = some (.int .i64 x.day) := cell_of_block ZxW2.out 0 (by simp)
                          have ex1W2 : W2.cell? ⟨w.heap.size + 1, 1, none⟩ = some (.int .i64 x.alo) := cell_of_block ZxW2.out 1 (by simp)
                          have ex2W2 : W2.cell? ⟨w.heap.size + 1, 2, none⟩ = some (.int .i64 x.ahi) := cell_of_block ZxW2.out 2 (by simp)
                          have ex3W2 : W2.cell? ⟨w.heap.size + 1, 3, none⟩ = some (.int .i64 x.wlo) := cell_of_block ZxW2.out 3 (by simp)
                          have ex4W2 : W2.cell? ⟨w.heap.size + 1, 4, none⟩ = some (.int .i64 x.whi) := cell_of_block ZxW2.out 4 (by simp)
                          have lxW2 := (Array.getElem?_eq_some_iff.1 ZxW2.out).1
                          have em0W2 : W2.cell? ⟨V.heap.size + z8.bs.size, 0, none⟩ = some (.int .i64 m.day) := cell_of_block ZmW2.out 0 (by simp)
                          have em1W2 : W2.cell? ⟨V.heap.size + z8.bs.size, 1, none⟩ = some (.int .i64 m.vlo) := cell_of_block ZmW2.out 1 (by simp)
                          have em2W2 : W2.cell? ⟨V.heap.size + z8.bs.size, 2, none⟩ = some (.int .i64 m.vhi) := cell_of_block ZmW2.out 2 (by simp)
                          have em3W2 : W2.cell? ⟨V.heap.size + z8.bs.size, 3, none⟩ = some (.int .i64 m.slo) := cell_of_block ZmW2.out 3 (by simp)
                          have em4W2 : W2.cell? ⟨V.heap.size + z8.bs.size, 4, none⟩ = some (.int .i64 m.shi) := cell_of_block ZmW2.out 4 (by simp)
                          have lmW2 := (Array.getElem?_eq_some_iff.1 ZmW2.out).1
                          go_wp2_with fail
                          refine (Calls.grown (ME'.out _ (S2.out))).mono ?_
                          rintro e w1 ⟨rfl, z9, rfl⟩
                          go_upto_region 8 with (fail)
                          obtain ⟨W3, hW3⟩ : ∃ W3, ((gw W2 z9)).alloc (.cells #[.int .i64 v.day, .int .i64 v.alo, .int .i64 v.ahi, .int .i64 v.wlo, .int .i64 v.whi] 28) = W3 := ⟨_, rfl⟩
                          have hbW3 : Below W2.heap.size W2 W3 := by rw [← hW3]; exact (below_gw W2 z9).alloc (by simp [gw_size]) _
                          have ZcW3 := Lib.hid ((hbW3.block _ (Array.getElem?_eq_some_iff.1 ZcW2.out).1).trans ZcW2.out)
                          have ZxW3 := Lib.hid ((hbW3.block _ (Array.getElem?_eq_some_iff.1 ZxW2.out).1).trans ZxW2.out)
                          have ZmW3 := Lib.hid ((hbW3.block _ (Array.getElem?_eq_some_iff.1 ZmW2.out).1).trans ZmW2.out)
                          have zvW3 : W3.heap[W2.heap.size + z9.bs.size]? = some (.cells #[.int .i64 v.day, .int .i64 v.alo, .int .i64 v.ahi, .int .i64 v.wlo, .int .i64 v.whi] 28 (0, 0)) := by rw [← hW3]; exact alloc_at (by simp [gw_size])
                          have ZvW3 := Lib.hid zvW3; clear zvW3
                          have HBW3 := Lib.hid (thru hbW3 HBW2.out)
                          have SBW3 := Lib.hid hbW3; clear hbW3
                          have HWW3 := Lib.hid hW3; clear hW3
                          rw [HWW3.out]
                          clear ec0W2 ec1W2 ec2W2 ex0W2 ex1W2 ex2W2 ex3W2 ex4W2 em0W2 em1W2 em2W2 em3W2 em4W2
                          have S3 := Lib.hid (S2.out.trans (SBW3.out.mono S2.out.size))
                          have ec0W3 : W3.cell? ⟨w.heap.size, 0, none⟩ = some (.int .i64 C.days) := cell_of_block ZcW3.out 0 (by simp)
                          have ec1W3 : W3.cell? ⟨w.heap.size, 1, none⟩ = some (.slice C.aA C.nA C.cA) := cell_of_block ZcW3.out 1 (by simp)
                          have ec2W3 : W3.cell? ⟨w.heap.size, 2, none⟩ = some (.slice C.aW C.nW C.cW) := cell_of_block ZcW3.out 2 (by simp)
                          have lcW3 := (Array.getElem?_eq_some_iff.1 ZcW3.out).1
                          have ex0W3 : W3.cell? ⟨w.heap.size + 1, 0, none⟩ = some (.int .i64 x.day) := cell_of_block ZxW3.out 0 (by simp)
                          have ex1W3 : W3.cell? ⟨w.heap.size + 1, 1, none⟩ = some (.int .i64 x.alo) := cell_of_block ZxW3.out 1 (by simp)
                          have ex2W3 : W3.cell? ⟨w.heap.size + 1, 2, none⟩ = some (.int .i64 x.ahi) := cell_of_block ZxW3.out 2 (by simp)
                          have ex3W3 : W3.cell? ⟨w.heap.size + 1, 3, none⟩ = some (.int .i64 x.wlo) := cell_of_block ZxW3.out 3 (by simp)
                          have ex4W3 : W3.cell? ⟨w.heap.size + 1, 4, none⟩ = some (.int .i64 x.whi) := cell_of_block ZxW3.out 4 (by simp)
                          have lxW3 := (Array.getElem?_eq_some_iff.1 ZxW3.out).1
                          have em0W3 : W3.cell? ⟨V.heap.size + z8.bs.size, 0, none⟩ = some (.int .i64 m.day) := cell_of_block ZmW3.out 0 (by simp)
                          have em1W3 : W3.cell? ⟨V.heap.size + z8.bs.size, 1, none⟩ = some (.int .i64 m.vlo) := cell_of_block ZmW3.out 1 (by simp)
                          have em2W3 : W3.cell? ⟨V.heap.size + z8.bs.size, 2, none⟩ = some (.int .i64 m.vhi) := cell_of_block ZmW3.out 2 (by simp)
                          have em3W3 : W3.cell? ⟨V.heap.size + z8.bs.size, 3, none⟩ = some (.int .i64 m.slo) := cell_of_block ZmW3.out 3 (by simp)
                          have em4W3 : W3.cell? ⟨V.heap.size + z8.bs.size, 4, none⟩ = some (.int .i64 m.shi) := cell_of_block ZmW3.out 4 (by simp)
                          have lmW3 := (Array.getElem?_eq_some_iff.1 ZmW3.out).1
                          have ev0W3 : W3.cell? ⟨W2.heap.size + z9.bs.size, 0, none⟩ = some (.int .i64 v.day) := cell_of_block ZvW3.out 0 (by simp)
                          have ev1W3 : W3.cell? ⟨W2.heap.size + z9.bs.size, 1, none⟩ = some (.int .i64 v.alo) := cell_of_block ZvW3.out 1 (by simp)
                          have ev2W3 : W3.cell? ⟨W2.heap.size + z9.bs.size, 2, none⟩ = some (.int .i64 v.ahi) := cell_of_block ZvW3.out 2 (by simp)
                          have ev3W3 : W3.cell? ⟨W2.heap.size + z9.bs.size, 3, none⟩ = some (.int .i64 v.wlo) := cell_of_block ZvW3.out 3 (by simp)
                          have ev4W3 : W3.cell? ⟨W2.heap.size + z9.bs.size, 4, none⟩ = some (.int .i64 v.whi) := cell_of_block ZvW3.out 4 (by simp)
                          have lvW3 := (Array.getElem?_eq_some_iff.1 ZvW3.out).1
                          go_wp2_with fail
                          refine (Calls.grown (SH'.out _ (S3.out))).mono ?_
                          rintro e w1 ⟨rfl, z10, rfl⟩
                          go_wp2_with fail
                          refine (Calls.gw_of (has_true _ _ _ _ (by assumption) (by assumption))).mono ?_
                          rintro e w1 ⟨rfl, z11, rfl⟩
                          go_wp2_with fail
                          refine (Calls.gw_of (has_true _ _ _ _ (by assumption) (by assumption))).mono ?_
                          rintro e w1 ⟨rfl, z12, rfl⟩
                          go_wp2_with fail
                          refine (Calls.gw_of (alive_any _)).mono ?_
                          rintro e w1 ⟨rfl, z13, rfl⟩
                          go_wp2_with fail
                          go_ret
                          exact ⟨rfl, HBW3.out.gw z13⟩
end Go.Proofs.Ytljofnmgddfljaa
