/- Contract of the reference's Follow. Plain laws of places; contracts of the reference's Floors and Ints. No conditions beyond each theorem's own. -/
import Derived.Test.YtljofnmgddfljaaFm
import Derived.Test.YtljofnmgddfljaaCb
import Derived.Test.YtljofnmgddfljaaFv
set_option linter.unusedVariables false
set_option linter.unusedSimpArgs false
set_option linter.unusedSectionVars false
set_option linter.constructorNameAsVariable false
namespace Go.Proofs.Ytljofnmgddfljaa
open Go.RowKit

attribute [local go_sem] gw_cell gw_frozen gw_size

set_option maxRecDepth 100000 in
set_option maxHeartbeats 8000000 in
theorem rFollow_any (C : Clim) (x : Cont) (aS aL : Option Addr) (k cS n cL : Nat) (F G : Nat → Int) (M : Nat → Reg) (R : Cont × Nat × Int) (w : World) (hC : C.In w) (hf : C.Fits) (hk : k ≤ 9223372036854775807) (hS : SpansAt w aS k F G) (hL : RegsAt w aL n M) (hn : n ≤ 9223372036854775807) (hR : folV C k F G M x n = R) :
    Calls Try.prog 42 #[.agg #[.int .i64 C.days, .slice C.aA C.nA C.cA, .slice C.aW C.nW C.cW], x.val, .slice aS k cS, .slice aL n cL] w fun e w' => e = .returned (.tuple #[R.1.val, .int .i64 R.2.1, .int .i64 R.2.2]) ∧ Below w.heap.size w w' := by
  rw [show x.val = .agg #[.int .i64 x.day, .int .i64 x.alo, .int .i64 x.ahi, .int .i64 x.wlo, .int .i64 x.whi] from rfl]
  obtain ⟨W1, hW1⟩ : ∃ W1, ((w.alloc (.cells #[.int .i64 C.days, .slice C.aA C.nA C.cA, .slice C.aW C.nW C.cW] 24)).alloc (.cells #[.int .i64 x.day, .int .i64 x.alo, .int .i64 x.ahi, .int .i64 x.wlo, .int .i64 x.whi] 28)).alloc (.cells #[.int .i64 0, .int .i64 0, .int .i64 0, .int .i64 0, .int .i64 0] 28) = W1 := ⟨_, rfl⟩
  have hBc : Below w.heap.size w W1 := by rw [← hW1]; exact ((below_alloc _ _).alloc (by simp) _).alloc (by simp <;> omega) _
  have zc0 : W1.heap[w.heap.size]? = some (.cells #[.int .i64 C.days, .slice C.aA C.nA C.cA, .slice C.aW C.nW C.cW] 24 (0, 0)) := by rw [← hW1]; exact alloc_keep (alloc_keep (alloc_at rfl))
  have zc1 : W1.heap[w.heap.size + 1]? = some (.cells #[.int .i64 x.day, .int .i64 x.alo, .int .i64 x.ahi, .int .i64 x.wlo, .int .i64 x.whi] 28 (0, 0)) := by rw [← hW1]; exact alloc_keep (alloc_at (by simp))
  have zc2 : W1.heap[w.heap.size + 1 + 1]? = some (.cells #[.int .i64 0, .int .i64 0, .int .i64 0, .int .i64 0, .int .i64 0] 28 (0, 0)) := by rw [← hW1]; exact alloc_at (by simp <;> omega)
  have c00 : W1.cell? ⟨w.heap.size, 0, none⟩ = some (.int .i64 C.days) := cell_of_block zc0 0 (by simp)
  have c01 : W1.cell? ⟨w.heap.size, 1, none⟩ = some (.slice C.aA C.nA C.cA) := cell_of_block zc0 1 (by simp)
  have c02 : W1.cell? ⟨w.heap.size, 2, none⟩ = some (.slice C.aW C.nW C.cW) := cell_of_block zc0 2 (by simp)
  have c10 : W1.cell? ⟨w.heap.size + 1, 0, none⟩ = some (.int .i64 x.day) := cell_of_block zc1 0 (by simp)
  have c11 : W1.cell? ⟨w.heap.size + 1, 1, none⟩ = some (.int .i64 x.alo) := cell_of_block zc1 1 (by simp)
  have c12 : W1.cell? ⟨w.heap.size + 1, 2, none⟩ = some (.int .i64 x.ahi) := cell_of_block zc1 2 (by simp)
  have c13 : W1.cell? ⟨w.heap.size + 1, 3, none⟩ = some (.int .i64 x.wlo) := cell_of_block zc1 3 (by simp)
  have c14 : W1.cell? ⟨w.heap.size + 1, 4, none⟩ = some (.int .i64 x.whi) := cell_of_block zc1 4 (by simp)
  have c20 : W1.cell? ⟨w.heap.size + 1 + 1, 0, none⟩ = some (.int .i64 0) := cell_of_block zc2 0 (by simp)
  have c21 : W1.cell? ⟨w.heap.size + 1 + 1, 1, none⟩ = some (.int .i64 0) := cell_of_block zc2 1 (by simp)
  have c22 : W1.cell? ⟨w.heap.size + 1 + 1, 2, none⟩ = some (.int .i64 0) := cell_of_block zc2 2 (by simp)
  have c23 : W1.cell? ⟨w.heap.size + 1 + 1, 3, none⟩ = some (.int .i64 0) := cell_of_block zc2 3 (by simp)
  have c24 : W1.cell? ⟨w.heap.size + 1 + 1, 4, none⟩ = some (.int .i64 0) := cell_of_block zc2 4 (by simp)
  have lc0 := (Array.getElem?_eq_some_iff.1 zc0).1
  have lc1 := (Array.getElem?_eq_some_iff.1 zc1).1
  have lc2 := (Array.getElem?_eq_some_iff.1 zc2).1
  have fc20 := frozen_of_block zc2 0
  have fc21 := frozen_of_block zc2 1
  have fc22 := frozen_of_block zc2 2
  have fc23 := frozen_of_block zc2 3
  have fc24 := frozen_of_block zc2 4
  have Zc0 := Lib.hid zc0
  have Zc1 := Lib.hid zc1
  have Zc2 := Lib.hid zc2
  clear zc0 zc1 zc2
  have HBc := Lib.hid hBc; clear hBc
  have HWc := Lib.hid hW1; clear hW1
  have HCw := Lib.hid hC
  have HSw := Lib.hid hS
  have HLw := Lib.hid hL; clear hL
  have HC := Lib.hid (hC.below HBc.out); clear hC
  have HS := Lib.hid (hS.below HBc.out); clear hS
  unfold folV at hR
  by_cases h64 : 64 < n
  · rw [if_pos h64] at hR
    have HR := Lib.hid hR.symm; clear hR
    go_enter Try.func42, Try.ntmps42
    go_wp2_with fail
    rw [HWc.out]
    go_wp2_with fail
    refine bodyPost_ret (v := .tuple #[.agg #[.int .i64 0, .int .i64 0, .int .i64 0, .int .i64 0, .int .i64 0], .int .i64 0, .int .i64 3]) (by simp [results, Try.results42, go_sem, *]) rfl ⟨by rw [HR.out]; rfl, ?_⟩
    exact HBc.out
  · rw [if_neg h64] at hR
    cases g1 : climB C with
    | false =>
      rw [if_neg (by rw [g1]; simp)] at hR
      have HR := Lib.hid hR.symm; clear hR
      have IC := Lib.hid (rClimate_b C W1 HC.out hf g1); clear g1
      go_enter Try.func42, Try.ntmps42
      go_wp2_with fail
      rw [HWc.out]
      go_wp2_with fail
      refine (Calls.grown (IC.out)).mono ?_
      rintro e w1 ⟨rfl, z1, rfl⟩
      go_wp2_with fail
      refine bodyPost_ret (v := .tuple #[.agg #[.int .i64 0, .int .i64 0, .int .i64 0, .int .i64 0, .int .i64 0], .int .i64 0, .int .i64 1]) (by simp [results, Try.results42, go_sem, *]) rfl ⟨by rw [HR.out]; rfl, ?_⟩
      exact (((((HBc.out.gw z1).setCell (by simp <;> omega) _).setCell (by simp <;> omega) _).setCell (by simp <;> omega) _).setCell (by simp <;> omega) _).setCell (by simp <;> omega) _
    | true =>
      have IC := Lib.hid (rClimate_b C W1 HC.out hf g1)
      cases g2 : contB x with
      | false =>
        rw [if_neg (by rw [g2]; simp)] at hR
        have HR := Lib.hid hR.symm; clear hR
        have IX := Lib.hid (fun W => rContent_b x W g2); clear g1 g2
        go_enter Try.func42, Try.ntmps42
        go_wp2_with fail
        rw [HWc.out]
        go_wp2_with fail
        refine (Calls.grown (IC.out)).mono ?_
        rintro e w1 ⟨rfl, z1, rfl⟩
        go_wp2_with fail
        refine (Calls.gw_of (IX.out _)).mono ?_
        rintro e w1 ⟨rfl, z2, rfl⟩
        go_wp2_with fail
        refine bodyPost_ret (v := .tuple #[.agg #[.int .i64 0, .int .i64 0, .int .i64 0, .int .i64 0, .int .i64 0], .int .i64 0, .int .i64 1]) (by simp [results, Try.results42, go_sem, *]) rfl ⟨by rw [HR.out]; rfl, ?_⟩
        exact (((((HBc.out.gw z2).setCell (by simp <;> omega) _).setCell (by simp <;> omega) _).setCell (by simp <;> omega) _).setCell (by simp <;> omega) _).setCell (by simp <;> omega) _
      | true =>
        have IX := Lib.hid (fun W => rContent_b x W g2)
        cases g3 : staysB C.nA k F G with
        | false =>
          rw [if_neg (by rw [g3]; simp)] at hR
          have HR := Lib.hid hR.symm; clear hR
          have IS := Lib.hid (fun W (hb : Below W1.heap.size W1 W) => rStays_b C aS k cS F G W hf hk (HS.out.below hb) g3); clear g1 g2 g3
          go_enter Try.func42, Try.ntmps42
          go_wp2_with fail
          rw [HWc.out]
          go_wp2_with fail
          refine (Calls.grown (IC.out)).mono ?_
          rintro e w1 ⟨rfl, z1, rfl⟩
          go_wp2_with fail
          refine (Calls.gw_of (IX.out _)).mono ?_
          rintro e w1 ⟨rfl, z2, rfl⟩
          go_wp2_with fail
          refine (Calls.gw_of (IS.out _ (below_gw W1 _))).mono ?_
          rintro e w1 ⟨rfl, z3, rfl⟩
          go_wp2_with fail
          refine bodyPost_ret (v := .tuple #[.agg #[.int .i64 0, .int .i64 0, .int .i64 0, .int .i64 0, .int .i64 0], .int .i64 0, .int .i64 1]) (by simp [results, Try.results42, go_sem, *]) rfl ⟨by rw [HR.out]; rfl, ?_⟩
          exact (((((HBc.out.gw z3).setCell (by simp <;> omega) _).setCell (by simp <;> omega) _).setCell (by simp <;> omega) _).setCell (by simp <;> omega) _).setCell (by simp <;> omega) _
        | true =>
          rw [if_pos ⟨g1, g2, g3⟩] at hR
          have HR := Lib.hid hR; clear hR
          have IS := Lib.hid (fun W (hb : Below W1.heap.size W1 W) => rStays_b C aS k cS F G W hf hk (HS.out.below hb) g3); clear g1 g2 g3
          go_enter Try.func42, Try.ntmps42
          go_wp2_with fail
          rw [HWc.out]
          go_wp2_with fail
          refine (Calls.grown (IC.out)).mono ?_
          rintro e w1 ⟨rfl, z1, rfl⟩
          go_wp2_with fail
          refine (Calls.gw_of (IX.out _)).mono ?_
          rintro e w1 ⟨rfl, z2, rfl⟩
          go_wp2_with fail
          refine (Calls.gw_of (IS.out _ (below_gw W1 _))).mono ?_
          rintro e w1 ⟨rfl, z3, rfl⟩
          go_wp2_with fail
          have K0 := Lib.hid (((below_gw W1 z3).block _ lc0).trans Zc0.out)
          have K1 := Lib.hid (((below_gw W1 z3).block _ lc1).trans Zc1.out)
          have K2 := Lib.hid (((below_gw W1 z3).block _ lc2).trans Zc2.out)
          have BW := Lib.hid (HBc.out.gw z3)
          clear c00 c01 c02 c10 c11 c12 c13 c14 c20 c21 c22 c23 c24 fc20 fc21 fc22 fc23 fc24 lc0 lc1 lc2
          go_loopw [11] (fun i wr => ∃ (j : Nat) (y : Cont), j ≤ n ∧ i = .int .i64 j ∧ Hid (folS C k F G M (n - j) j y = R) ∧ wr.heap[w.heap.size]? = some (.cells #[.int .i64 C.days, .slice C.aA C.nA C.cA, .slice C.aW C.nW C.cW] 24 (0, 0)) ∧ wr.heap[w.heap.size + 1]? = some (.cells #[.int .i64 y.day, .int .i64 y.alo, .int .i64 y.ahi, .int .i64 y.wlo, .int .i64 y.whi] 28 (0, 0)) ∧ wr.heap[w.heap.size + 1 + 1]? = some (.cells #[.int .i64 0, .int .i64 0, .int .i64 0, .int .i64 0, .int .i64 0] 28 (0, 0)) ∧ Hid (Below w.heap.size w wr)) (fun i _ => n - (intOf i).toNat)
          case atStart => exact ⟨0, x, Nat.zero_le _, rfl, HR, K0.out, K1.out, K2.out, BW⟩
          case round =>
            obtain ⟨j, y, hj, rfl, hR, h0, h1, h2, HB⟩ := hrel
            have H0 := Lib.hid h0; clear h0
            have H1 := Lib.hid h1; clear h1
            have H2 := Lib.hid h2; clear h2
            by_cases hlt : j < n
            · rcases HLw.out with hz | ⟨b, off, rfl, lb, hc⟩
              · omega
              · obtain ⟨m0, m1, m2, m3, m4⟩ := hc j hlt
                have lbr := Nat.lt_of_lt_of_le lb HB.out.size
                have q0 := below_cell HB.out m0
                have q1 := below_cell HB.out m1
                have q2 := below_cell HB.out m2
                have q3 := below_cell HB.out m3
                have q4 := below_cell HB.out m4
                clear hc m0 m1 m2 m3 m4
                have FO := folS_ok (C := C) (k := k) (F := F) (G := G) (M := M) (y := y) hlt
                have FB := folS_bad (C := C) (k := k) (F := F) (G := G) (M := M) (y := y) hlt
                rw [hR.out] at FO FB
                obtain ⟨m, hm⟩ : ∃ m, M j = m := ⟨_, rfl⟩
                rw [hm] at FO FB q0 q1 q2 q3 q4
                clear hm hR
                have ME := fun W (hb : Below wr.heap.size wr W) => rMeasure_any C y aS k cS F G m W ((HCw.out.below HB.out).below hb) hf hk ((HSw.out.below HB.out).below hb)
                obtain ⟨f, hf0⟩ : ∃ f, measF C y k F G m = f := ⟨_, rfl⟩
                obtain ⟨v, hv⟩ : ∃ v, measV C y k F G m = v := ⟨_, rfl⟩
                rw [hf0, hv] at ME
                rw [hf0, hv] at FO
                rw [hf0] at FB
                clear hf0 hv
                unfold Reg.val Cont.val at ME
                have ME' := Lib.hid ME; clear ME
                by_cases ff : f = 0
                · subst ff
                  have HR := Lib.hid (FO rfl).symm; clear FO FB
                  have j0 : (0 : Int) ≤ (j : Int) := by omega
                  have j1 : (j : Int) < (n : Int) := by omega
                  have ec0wr : wr.cell? ⟨w.heap.size, 0, none⟩ = some (.int .i64 C.days) := cell_of_block H0.out 0 (by simp)
                  have ec1wr : wr.cell? ⟨w.heap.size, 1, none⟩ = some (.slice C.aA C.nA C.cA) := cell_of_block H0.out 1 (by simp)
                  have ec2wr : wr.cell? ⟨w.heap.size, 2, none⟩ = some (.slice C.aW C.nW C.cW) := cell_of_block H0.out 2 (by simp)
                  have lcwr := (Array.getElem?_eq_some_iff.1 H0.out).1
                  have ex0wr : wr.cell? ⟨w.heap.size + 1, 0, none⟩ = some (.int .i64 y.day) := cell_of_block H1.out 0 (by simp)
                  have ex1wr : wr.cell? ⟨w.heap.size + 1, 1, none⟩ = some (.int .i64 y.alo) := cell_of_block H1.out 1 (by simp)
                  have ex2wr : wr.cell? ⟨w.heap.size + 1, 2, none⟩ = some (.int .i64 y.ahi) := cell_of_block H1.out 2 (by simp)
                  have ex3wr : wr.cell? ⟨w.heap.size + 1, 3, none⟩ = some (.int .i64 y.wlo) := cell_of_block H1.out 3 (by simp)
                  have ex4wr : wr.cell? ⟨w.heap.size + 1, 4, none⟩ = some (.int .i64 y.whi) := cell_of_block H1.out 4 (by simp)
                  have lxwr := (Array.getElem?_eq_some_iff.1 H1.out).1
                  go_wp2_with fail
                  refine wp_region_box1 [true, true, true, true, true, true, true, true, true, true, true, false, false, true] 11 12 #[.int .i64 0, .int .i64 0, .int .i64 0, .int .i64 0, .int .i64 0] #[.int .i64 v.day, .int .i64 v.alo, .int .i64 v.ahi, .int .i64 v.wlo, .int .i64 v.whi] (by kernel_rfl) rfl rfl rfl (by kernel_rfl) rfl (by kernel_rfl) infoCont rfl rfl (by simp [Value.oneCell']) ?_
                  apply Exists.intro
                  refine ⟨fun S hS hx => ?_, ?_, ?_⟩
                  · obtain ⟨x0, hx0⟩ := hx
                    haveI : Nonempty (GrewS wr S) := ⟨⟨x0, hx0⟩⟩
                    simp only [pickM]
                    repeat (go_big_quiet_step ((go_at_call 23; with_reducible exact Calls.gwS hS (ME'.out _ (below_gw wr _)))))
                    exact wpQuiet_nil rfl
                  · rfl
                  · intro B5 w5 hBw hblk hb5
                    have Zv := Lib.hid hblk
                    have Zcw5 := Lib.hid ((hb5.block _ (Array.getElem?_eq_some_iff.1 H0.out).1).trans H0.out)
                    have Zxw5 := Lib.hid ((hb5.block _ (Array.getElem?_eq_some_iff.1 H1.out).1).trans H1.out)
                    have Zow5 := Lib.hid ((hb5.block _ (Array.getElem?_eq_some_iff.1 H2.out).1).trans H2.out)
                    have HBw5 := Lib.hid (thru hb5 HB.out)
                    clear hblk hb5 ec0wr ec1wr ec2wr ex0wr ex1wr ex2wr ex3wr ex4wr
                    have ev0w5 : w5.cell? ⟨B5, 0, none⟩ = some (.int .i64 v.day) := cell_of_block Zv.out 0 (by simp)
                    have ev1w5 : w5.cell? ⟨B5, 1, none⟩ = some (.int .i64 v.alo) := cell_of_block Zv.out 1 (by simp)
                    have ev2w5 : w5.cell? ⟨B5, 2, none⟩ = some (.int .i64 v.ahi) := cell_of_block Zv.out 2 (by simp)
                    have ev3w5 : w5.cell? ⟨B5, 3, none⟩ = some (.int .i64 v.wlo) := cell_of_block Zv.out 3 (by simp)
                    have ev4w5 : w5.cell? ⟨B5, 4, none⟩ = some (.int .i64 v.whi) := cell_of_block Zv.out 4 (by simp)
                    have lvw5 := (Array.getElem?_eq_some_iff.1 Zv.out).1
                    have ex0w5 : w5.cell? ⟨w.heap.size + 1, 0, none⟩ = some (.int .i64 y.day) := cell_of_block Zxw5.out 0 (by simp)
                    have fx0w5 := frozen_of_block Zxw5.out 0
                    have ex1w5 : w5.cell? ⟨w.heap.size + 1, 1, none⟩ = some (.int .i64 y.alo) := cell_of_block Zxw5.out 1 (by simp)
                    have fx1w5 := frozen_of_block Zxw5.out 1
                    have ex2w5 : w5.cell? ⟨w.heap.size + 1, 2, none⟩ = some (.int .i64 y.ahi) := cell_of_block Zxw5.out 2 (by simp)
                    have fx2w5 := frozen_of_block Zxw5.out 2
                    have ex3w5 : w5.cell? ⟨w.heap.size + 1, 3, none⟩ = some (.int .i64 y.wlo) := cell_of_block Zxw5.out 3 (by simp)
                    have fx3w5 := frozen_of_block Zxw5.out 3
                    have ex4w5 : w5.cell? ⟨w.heap.size + 1, 4, none⟩ = some (.int .i64 y.whi) := cell_of_block Zxw5.out 4 (by simp)
                    have fx4w5 := frozen_of_block Zxw5.out 4
                    have lxw5 := (Array.getElem?_eq_some_iff.1 Zxw5.out).1
                    have FS := Lib.hid (five_set (by simp) Zxw5.out (.int .i64 v.day) (.int .i64 v.alo) (.int .i64 v.ahi) (.int .i64 v.wlo) (.int .i64 v.whi))
                    have FGR := Lib.hid (five_grown w5 (w.heap.size + 1) (.int .i64 v.day) (.int .i64 v.alo) (.int .i64 v.ahi) (.int .i64 v.wlo) (.int .i64 v.whi))
                    go_upto_region 9 with (fail)
                    simp only [Act.put, List.setIfInBounds_toArray, List.set_cons_succ, List.set_cons_zero]
                    go_wp2_with fail
                    go_roundw
                    case rel => exact ⟨j + 1, v, by omega, by go_num, HR, (FGR.out.block _ (Array.getElem?_eq_some_iff.1 Zcw5.out).1 (by simp)).trans Zcw5.out, FS.out, (FGR.out.block _ (Array.getElem?_eq_some_iff.1 Zow5.out).1 (by simp)).trans Zow5.out, Lib.hid ((((((HBw5.out).setCell (by simp <;> omega) _).setCell (by simp <;> omega) _).setCell (by simp <;> omega) _).setCell (by simp <;> omega) _).setCell (by simp <;> omega) _)⟩
                    case measure => simp [intOf]; omega
                · have HR := Lib.hid (FB ff); clear FO FB
                  have ne : (f != 0) = true := by simpa using ff
                  clear ff
                  have j0 : (0 : Int) ≤ (j : Int) := by omega
                  have j1 : (j : Int) < (n : Int) := by omega
                  have ec0wr : wr.cell? ⟨w.heap.size, 0, none⟩ = some (.int .i64 C.days) := cell_of_block H0.out 0 (by simp)
                  have ec1wr : wr.cell? ⟨w.heap.size, 1, none⟩ = some (.slice C.aA C.nA C.cA) := cell_of_block H0.out 1 (by simp)
                  have ec2wr : wr.cell? ⟨w.heap.size, 2, none⟩ = some (.slice C.aW C.nW C.cW) := cell_of_block H0.out 2 (by simp)
                  have lcwr := (Array.getElem?_eq_some_iff.1 H0.out).1
                  have ex0wr : wr.cell? ⟨w.heap.size + 1, 0, none⟩ = some (.int .i64 y.day) := cell_of_block H1.out 0 (by simp)
                  have ex1wr : wr.cell? ⟨w.heap.size + 1, 1, none⟩ = some (.int .i64 y.alo) := cell_of_block H1.out 1 (by simp)
                  have ex2wr : wr.cell? ⟨w.heap.size + 1, 2, none⟩ = some (.int .i64 y.ahi) := cell_of_block H1.out 2 (by simp)
                  have ex3wr : wr.cell? ⟨w.heap.size + 1, 3, none⟩ = some (.int .i64 y.wlo) := cell_of_block H1.out 3 (by simp)
                  have ex4wr : wr.cell? ⟨w.heap.size + 1, 4, none⟩ = some (.int .i64 y.whi) := cell_of_block H1.out 4 (by simp)
                  have lxwr := (Array.getElem?_eq_some_iff.1 H1.out).1
                  go_wp2_with fail
                  refine wp_region_box1 [true, true, true, true, true, true, true, true, true, true, true, false, false, true] 11 12 #[.int .i64 0, .int .i64 0, .int .i64 0, .int .i64 0, .int .i64 0] #[.int .i64 v.day, .int .i64 v.alo, .int .i64 v.ahi, .int .i64 v.wlo, .int .i64 v.whi] (by kernel_rfl) rfl rfl rfl (by kernel_rfl) rfl (by kernel_rfl) infoCont rfl rfl (by simp [Value.oneCell']) ?_
                  apply Exists.intro
                  refine ⟨fun S hS hx => ?_, ?_, ?_⟩
                  · obtain ⟨x0, hx0⟩ := hx
                    haveI : Nonempty (GrewS wr S) := ⟨⟨x0, hx0⟩⟩
                    simp only [pickM]
                    repeat (go_big_quiet_step ((go_at_call 23; with_reducible exact Calls.gwS hS (ME'.out _ (below_gw wr _)))))
                    exact wpQuiet_nil rfl
                  · rfl
                  · intro B5 w5 hBw hblk hb5
                    have Zv := Lib.hid hblk
                    have Zcw5 := Lib.hid ((hb5.block _ (Array.getElem?_eq_some_iff.1 H0.out).1).trans H0.out)
                    have Zxw5 := Lib.hid ((hb5.block _ (Array.getElem?_eq_some_iff.1 H1.out).1).trans H1.out)
                    have Zow5 := Lib.hid ((hb5.block _ (Array.getElem?_eq_some_iff.1 H2.out).1).trans H2.out)
                    have HBw5 := Lib.hid (thru hb5 HB.out)
                    clear hblk hb5 ec0wr ec1wr ec2wr ex0wr ex1wr ex2wr ex3wr ex4wr
                    have ev0w5 : w5.cell? ⟨B5, 0, none⟩ = some (.int .i64 v.day) := cell_of_block Zv.out 0 (by simp)
                    have ev1w5 : w5.cell? ⟨B5, 1, none⟩ = some (.int .i64 v.alo) := cell_of_block Zv.out 1 (by simp)
                    have ev2w5 : w5.cell? ⟨B5, 2, none⟩ = some (.int .i64 v.ahi) := cell_of_block Zv.out 2 (by simp)
                    have ev3w5 : w5.cell? ⟨B5, 3, none⟩ = some (.int .i64 v.wlo) := cell_of_block Zv.out 3 (by simp)
                    have ev4w5 : w5.cell? ⟨B5, 4, none⟩ = some (.int .i64 v.whi) := cell_of_block Zv.out 4 (by simp)
                    have lvw5 := (Array.getElem?_eq_some_iff.1 Zv.out).1
                    have eo0w5 : w5.cell? ⟨w.heap.size + 1 + 1, 0, none⟩ = some (.int .i64 0) := cell_of_block Zow5.out 0 (by simp)
                    have fo0w5 := frozen_of_block Zow5.out 0
                    have eo1w5 : w5.cell? ⟨w.heap.size + 1 + 1, 1, none⟩ = some (.int .i64 0) := cell_of_block Zow5.out 1 (by simp)
                    have fo1w5 := frozen_of_block Zow5.out 1
                    have eo2w5 : w5.cell? ⟨w.heap.size + 1 + 1, 2, none⟩ = some (.int .i64 0) := cell_of_block Zow5.out 2 (by simp)
                    have fo2w5 := frozen_of_block Zow5.out 2
                    have eo3w5 : w5.cell? ⟨w.heap.size + 1 + 1, 3, none⟩ = some (.int .i64 0) := cell_of_block Zow5.out 3 (by simp)
                    have fo3w5 := frozen_of_block Zow5.out 3
                    have eo4w5 : w5.cell? ⟨w.heap.size + 1 + 1, 4, none⟩ = some (.int .i64 0) := cell_of_block Zow5.out 4 (by simp)
                    have fo4w5 := frozen_of_block Zow5.out 4
                    have low5 := (Array.getElem?_eq_some_iff.1 Zow5.out).1
                    go_upto_region 9 with (fail)
                    simp only [Act.put, List.setIfInBounds_toArray, List.set_cons_succ, List.set_cons_zero]
                    go_wp2_with fail
                    refine bodyPost_ret (v := .tuple #[.agg #[.int .i64 0, .int .i64 0, .int .i64 0, .int .i64 0, .int .i64 0], .int .i64 j, .int .i64 f]) (by simp [results, Try.results42, go_sem, *]) rfl ⟨by rw [HR.out]; rfl, ?_⟩
                    exact (((((HBw5.out).setCell (by simp <;> omega) _).setCell (by simp <;> omega) _).setCell (by simp <;> omega) _).setCell (by simp <;> omega) _).setCell (by simp <;> omega) _
            · obtain rfl : j = n := by omega
              have HRE := Lib.hid (hR.out.symm.trans folS_end)
              have ex0wr : wr.cell? ⟨w.heap.size + 1, 0, none⟩ = some (.int .i64 y.day) := cell_of_block H1.out 0 (by simp)
              have ex1wr : wr.cell? ⟨w.heap.size + 1, 1, none⟩ = some (.int .i64 y.alo) := cell_of_block H1.out 1 (by simp)
              have ex2wr : wr.cell? ⟨w.heap.size + 1, 2, none⟩ = some (.int .i64 y.ahi) := cell_of_block H1.out 2 (by simp)
              have ex3wr : wr.cell? ⟨w.heap.size + 1, 3, none⟩ = some (.int .i64 y.wlo) := cell_of_block H1.out 3 (by simp)
              have ex4wr : wr.cell? ⟨w.heap.size + 1, 4, none⟩ = some (.int .i64 y.whi) := cell_of_block H1.out 4 (by simp)
              have lxwr := (Array.getElem?_eq_some_iff.1 H1.out).1
              have eo0wr : wr.cell? ⟨w.heap.size + 1 + 1, 0, none⟩ = some (.int .i64 0) := cell_of_block H2.out 0 (by simp)
              have fo0wr := frozen_of_block H2.out 0
              have eo1wr : wr.cell? ⟨w.heap.size + 1 + 1, 1, none⟩ = some (.int .i64 0) := cell_of_block H2.out 1 (by simp)
              have fo1wr := frozen_of_block H2.out 1
              have eo2wr : wr.cell? ⟨w.heap.size + 1 + 1, 2, none⟩ = some (.int .i64 0) := cell_of_block H2.out 2 (by simp)
              have fo2wr := frozen_of_block H2.out 2
              have eo3wr : wr.cell? ⟨w.heap.size + 1 + 1, 3, none⟩ = some (.int .i64 0) := cell_of_block H2.out 3 (by simp)
              have fo3wr := frozen_of_block H2.out 3
              have eo4wr : wr.cell? ⟨w.heap.size + 1 + 1, 4, none⟩ = some (.int .i64 0) := cell_of_block H2.out 4 (by simp)
              have fo4wr := frozen_of_block H2.out 4
              have lowr := (Array.getElem?_eq_some_iff.1 H2.out).1
              go_wp2_with fail
              refine bodyPost_ret (v := .tuple #[.agg #[.int .i64 y.day, .int .i64 y.alo, .int .i64 y.ahi, .int .i64 y.wlo, .int .i64 y.whi], .int .i64 j, .int .i64 0]) (by simp [results, Try.results42, go_sem, *]) rfl ⟨by rw [HRE.out]; rfl, ?_⟩
              exact (((((HB.out).setCell (by simp <;> omega) _).setCell (by simp <;> omega) _).setCell (by simp <;> omega) _).setCell (by simp <;> omega) _).setCell (by simp <;> omega) _
end Go.Proofs.Ytljofnmgddfljaa

namespace Go.Proofs.Ytljofnmgddfljaa
open Go.Shelf Go.RowKit Go.Lib Go.Sort

attribute [local go_sem] gw_cell gw_frozen gw_size

section
variable (C : Clim) (x : Cont) (day : Int)
def flW (i : Nat) : Int := (flX C x day i).alo
/-- is a floor ahead of the i-th? -/
def befB (i k : Nat) : Bool := decide (flW C x day i < flW C x day k ∨ flW C x day k = flW C x day i ∧ k < i)
def cntB (i k : Nat) : Nat := (List.range k).countP (befB C x day i)
variable {C x day}
theorem cntB_succ (i k : Nat) : cntB C x day i (k + 1) = cntB C x day i k + if befB C x day i k = true then 1 else 0 := by
  unfold cntB; rw [List.range_succ, List.countP_append]; simp [List.countP_cons]
theorem cntB_le (i k : Nat) : cntB C x day i k ≤ k := by
  unfold cntB; have := List.countP_le_length (p := befB C x day i) (l := List.range k); simpa using this
theorem flI_perm (h : flE C x day = 0) : ((sortPl (flA C x day C.nA)).toList.map fun p => p.f).Perm (List.range C.nA) := by
  have := (sortPl_perm (flA C x day C.nA)).map fun p => p.f
  refine this.trans ?_
  have e : (flA C x day C.nA).toList.map (fun p => p.f) = List.range C.nA := by
    simp only [flA, List.map_map]
    rw [List.map_congr_left (g := id)]
    · simp
    · intro i hi
      have := (flP_eq h (List.mem_range.1 hi)).1
      simp only [Function.comp, id]
      omega
  rw [e]
theorem flI_place (h : flE C x day = 0) {i : Nat} (hi : i < C.nA) : cntB C x day i C.nA < C.nA ∧ flI C x day (cntB C x day i C.nA) = i := by
  have hs := (sortPl_size (flA C x day C.nA)).trans (flA_size C.nA)
  have hp := flI_perm h
  have mem : i ∈ ((sortPl (flA C x day C.nA)).toList.map fun p => p.f) := hp.mem_iff.2 (List.mem_range.2 hi)
  obtain ⟨p, hpl, he⟩ := List.mem_iff_getElem.1 mem
  have hpn : p < C.nA := by simpa [hs] using hpl
  have ep : flI C x day p = i := by
    unfold flI
    rw [getElem!_pos _ p (by omega)]
    simpa using he
  have key : ∀ q, q < C.nA → befB C x day i (flI C x day q) = decide (q < p) := fun q hq => by
    have o1 := flI_ok h hq
    have o2 := flI_ok h hpn
    have f1 := flP_eq h o1.1
    have f2 := flP_eq h o2.1
    have srt := List.pairwise_iff_getElem.1 (sortPl_sorted (flA C x day C.nA))
    have w1 : ((flP C x day (flI C x day q)).l : Int) = flW C x day (flI C x day q) := f1.2
    have w2 : ((flP C x day (flI C x day p)).l : Int) = flW C x day (flI C x day p) := f2.2
    have g1 := o1.2
    have g2 := o2.2
    rw [getElem!_pos _ q (by omega)] at g1
    rw [getElem!_pos _ p (by omega)] at g2
    rw [ep] at f2 w2 g2
    unfold befB
    congr 1
    apply propext
    rcases Nat.lt_trichotomy q p with hlt | rfl | hgt
    · have ne := flI_inj h hq hpn hlt
      have := srt q p (by simp; omega) (by simp; omega) hlt
      simp only [Array.getElem_toList] at this
      rw [g1, g2, ltP] at this
      simp at this
      omega
    · rw [ep]; omega
    · have := srt p q (by simp; omega) (by simp; omega) hgt
      simp only [Array.getElem_toList] at this
      rw [g1, g2, ltP] at this
      simp at this
      omega
  have cnt : cntB C x day i C.nA = p := by
    unfold cntB
    rw [← hp.countP_eq]
    have el : ((sortPl (flA C x day C.nA)).toList.map fun p => p.f) = (List.range C.nA).map (flI C x day) := by
      apply List.ext_getElem?
      intro j
      simp only [List.getElem?_map]
      by_cases hj : j < C.nA
      · have hj' : j < (sortPl (flA C x day C.nA)).size := by omega
        rw [List.getElem?_range hj, Array.getElem?_toList, Array.getElem?_eq_getElem hj']
        show some _ = some (flI C x day j)
        unfold flI
        rw [getElem!_pos _ j hj']
      · have : (sortPl (flA C x day C.nA)).size ≤ j := by omega
        simp [hj, this]
    rw [el, List.countP_map]
    have e2 : (List.range C.nA).countP (befB C x day i ∘ flI C x day) = (List.range C.nA).countP (fun q => decide (q < p)) := by
      apply List.countP_congr
      intro q hq
      simp only [Function.comp]
      rw [key q (List.mem_range.1 hq)]
    rw [e2]
    have : ∀ n, (List.range n).countP (fun q => decide (q < p)) = min n p := by
      intro n
      induction n with
      | zero => simp
      | succ n ih => rw [List.range_succ, List.countP_append, ih]; simp [List.countP_cons]; split <;> omega
    rw [this]; omega
  rw [cnt]
  exact ⟨hpn, ep⟩
end
/-- places that are filled -/
def FilledI (cur : Array Value) (n : Nat) (D : Nat → Int) (K : Nat → Prop) : Prop := cur.size = n ∧ ∀ k, k < n → K k → cur[k]? = some (.int .i64 (D k))
theorem FilledI.set {cur : Array Value} {n : Nat} {D : Nat → Int} {K K' : Nat → Prop} (h : FilledI cur n D K) (p : Nat) (hp : p < n) (hK : ∀ k, k < n → K' k → k = p ∨ k ≠ p ∧ K k) : FilledI (cur.setIfInBounds p (.int .i64 (D p))) n D K' := by
  refine ⟨by simpa using h.1, fun k hk hk' => ?_⟩
  rw [Array.getElem?_setIfInBounds]
  rcases hK k hk hk' with rfl | ⟨hne, hkk⟩
  · rw [if_pos rfl, if_pos (by rw [h.1]; exact hk)]
  · rw [if_neg (Ne.symm hne)]; exact h.2 k hk hkk
theorem filled_cell {W : World} {b k n : Nat} {cur : Array Value} {D : Nat → Int} {K : Nat → Prop} {t : TypeId} (h : W.heap[b]? = some (.cells cur t (0, 0))) (hm : FilledI cur n D K) (hk : k < n) (hK : K k) : W.cell? ⟨b, k, none⟩ = some (.int .i64 (D k)) := by
  rw [cell_of_row W b k cur t (0, 0) h]; exact hm.2 k hk hK

set_option maxHeartbeats 1000000 in
theorem sameInts_t (a b : Option Addr) (n ca cb : Nat) (D : Nat → Int) (w : World) (hn : n ≤ 9223372036854775807) (hA : IntsAt w a n D) (hB : IntsAt w b n D) :
    Calls Try.prog 44 #[.slice a n ca, .slice b n cb] w fun e w' => e = .returned (.bool true) ∧ Below w.heap.size w w' := by
  have HA := Lib.hid hA; clear hA
  have HB := Lib.hid hB; clear hB
  go_enter Try.func44, Try.ntmps44
  go_wp2_with fail
  go_loopw [5] (fun i wr => ∃ k : Nat, k ≤ n ∧ i = .int .i64 k ∧ ∃ x, wr = gw w x) (fun i _ => n - (intOf i).toNat)
  case atStart => exact ⟨0, Nat.zero_le _, rfl, ⟨#[], w.drawn⟩, by simp [gw]⟩
  case round =>
    obtain ⟨k, hk, rfl, x, rfl⟩ := hrel
    by_cases hlt : k < n
    · obtain ⟨b1, o1, rfl, l1, h1⟩ := ints_get HA.out (by omega)
      obtain ⟨b2, o2, rfl, l2, h2⟩ := ints_get HB.out (by omega)
      have d1 := h1 k hlt
      have e1 := h2 k hlt
      clear h1 h2
      go_wp2_with fail
      refine wp_region_gw2 (by kernel_rfl) (by kernel_rfl) ?_
      repeat (go_big_quiet_step (fail))
      refine wpQuiet_nil ?_
      rintro _ ⟨z, rfl⟩
      go_wp2_with fail
      go_roundw
      case rel => exact ⟨k + 1, by omega, by go_num, z, rfl⟩
      case measure => simp [intOf]; omega
    · obtain rfl : n = k := by omega
      go_wp2_with fail
      go_ret
      exact ⟨rfl, below_gw w x⟩

set_option maxRecDepth 100000 in
set_option maxHeartbeats 4000000 in
theorem rFloors_any (C : Clim) (x : Cont) (day : Int) (w : World) (hC : C.In w) (hf : C.Fits) :
    Calls Try.prog 43 #[.agg #[.int .i64 C.days, .slice C.aA C.nA C.cA, .slice C.aW C.nW C.cW], x.val, .int .i64 day] w fun e w' => ∃ a cap, e = .returned (.tuple #[.slice a (flN C x day) cap, .int .i64 (flE C x day)]) ∧ IntsAt w' a (flN C x day) (flD C x day) ∧ Below w.heap.size w w' := by
  unfold Cont.val
  obtain ⟨W1, hW1⟩ : ∃ W1, (w.alloc (.cells #[.int .i64 C.days, .slice C.aA C.nA C.cA, .slice C.aW C.nW C.cW] 24)).alloc (.cells #[.int .i64 x.day, .int .i64 x.alo, .int .i64 x.ahi, .int .i64 x.wlo, .int .i64 x.whi] 28) = W1 := ⟨_, rfl⟩
  have hBc : Below w.heap.size w W1 := by rw [← hW1]; exact (below_alloc _ _).alloc (by simp) _
  have zc0 : W1.heap[w.heap.size]? = some (.cells #[.int .i64 C.days, .slice C.aA C.nA C.cA, .slice C.aW C.nW C.cW] 24 (0, 0)) := by rw [← hW1]; exact alloc_keep (alloc_at rfl)
  have zc1 : W1.heap[w.heap.size + 1]? = some (.cells #[.int .i64 x.day, .int .i64 x.alo, .int .i64 x.ahi, .int .i64 x.wlo, .int .i64 x.whi] 28 (0, 0)) := by rw [← hW1]; exact alloc_at (by simp)
  have c00 : W1.cell? ⟨w.heap.size, 0, none⟩ = some (.int .i64 C.days) := cell_of_block zc0 0 (by simp)
  have c01 : W1.cell? ⟨w.heap.size, 1, none⟩ = some (.slice C.aA C.nA C.cA) := cell_of_block zc0 1 (by simp)
  have c02 : W1.cell? ⟨w.heap.size, 2, none⟩ = some (.slice C.aW C.nW C.cW) := cell_of_block zc0 2 (by simp)
  have c10 : W1.cell? ⟨w.heap.size + 1, 0, none⟩ = some (.int .i64 x.day) := cell_of_block zc1 0 (by simp)
  have c11 : W1.cell? ⟨w.heap.size + 1, 1, none⟩ = some (.int .i64 x.alo) := cell_of_block zc1 1 (by simp)
  have c12 : W1.cell? ⟨w.heap.size + 1, 2, none⟩ = some (.int .i64 x.ahi) := cell_of_block zc1 2 (by simp)
  have c13 : W1.cell? ⟨w.heap.size + 1, 3, none⟩ = some (.int .i64 x.wlo) := cell_of_block zc1 3 (by simp)
  have c14 : W1.cell? ⟨w.heap.size + 1, 4, none⟩ = some (.int .i64 x.whi) := cell_of_block zc1 4 (by simp)
  have lc0 := (Array.getElem?_eq_some_iff.1 zc0).1
  have lc1 := (Array.getElem?_eq_some_iff.1 zc1).1
  have Zc0 := Lib.hid zc0
  have Zc1 := Lib.hid zc1
  clear zc0 zc1
  have HBc := Lib.hid hBc; clear hBc
  have HWc := Lib.hid hW1; clear hW1
  have HC := Lib.hid (hC.below HBc.out); clear hC
  have HF := Lib.hid hf; clear hf
  cases g1 : climB C with
  | false =>
    have e1 : flE C x day = 1 := by unfold flE errH; rw [if_neg (by rw [g1]; simp)]
    have e2 : flN C x day = 0 := by unfold flN; rw [if_neg (by omega)]
    rw [e1, e2]
    clear e1 e2
    have CLI := Lib.hid (rClimate_b C W1 HC.out HF.out g1); clear g1
    go_enter Try.func43, Try.ntmps43
    go_wp2_with fail
    rw [HWc.out]
    go_wp2_with fail
    refine (Calls.grown (CLI.out)).mono ?_
    rintro e w1 ⟨rfl, z1, rfl⟩
    go_wp2_with fail
    go_ret2
    exact ⟨_, _, rfl, .inl rfl, HBc.out.gw z1⟩
  | true =>
    have CLI := Lib.hid (rClimate_b C W1 HC.out HF.out g1)
    have hna := (climB_t g1).2.1
    cases g2 : contB x with
    | false =>
      have e1 : flE C x day = 1 := by unfold flE errH; rw [if_neg (by rw [g2]; simp)]
      have e2 : flN C x day = 0 := by unfold flN; rw [if_neg (by omega)]
      rw [e1, e2]
      clear e1 e2
      have CON := Lib.hid (fun W => rContent_b x W g2); clear g1 g2
      go_enter Try.func43, Try.ntmps43
      go_wp2_with fail
      rw [HWc.out]
      go_wp2_with fail
      refine (Calls.grown (CLI.out)).mono ?_
      rintro e w1 ⟨rfl, z1, rfl⟩
      go_wp2_with fail
      refine (Calls.gw_of (CON.out _)).mono ?_
      rintro e w1 ⟨rfl, z2, rfl⟩
      go_wp2_with fail
      go_ret2
      exact ⟨_, _, rfl, .inl rfl, HBc.out.gw z2⟩
    | true =>
      have CON := Lib.hid (fun W => rContent_b x W g2)
      have g3 := stays_floor (C := C) (i := 0) (by omega)
      have xd := (contB_t g2).1
      cases g4 : inB day 0 65536 with
      | false =>
        have e1 : flE C x day = 2 := by unfold flE errH; rw [if_pos ⟨g1, g2, g3⟩, if_neg (by rw [g4]; simp)]
        have e2 : flN C x day = 0 := by unfold flN; rw [if_neg (by omega)]
        rw [e1, e2]
        clear e1 e2
        have INB := Lib.hid (fun W => rin_b day 0 65536 W g4); clear g1 g2 g3 g4
        go_enter Try.func43, Try.ntmps43
        go_wp2_with fail
        rw [HWc.out]
        go_wp2_with fail
        refine (Calls.grown (CLI.out)).mono ?_
        rintro e w1 ⟨rfl, z1, rfl⟩
        go_wp2_with fail
        refine (Calls.gw_of (CON.out _)).mono ?_
        rintro e w1 ⟨rfl, z2, rfl⟩
        go_wp2_with fail
        refine (INB.out _).mono ?_
        rintro e w1 ⟨rfl, rfl⟩
        go_wp2_with fail
        go_ret2
        exact ⟨_, _, rfl, .inl rfl, HBc.out.gw z2⟩
      | true =>
        have INB := Lib.hid (fun W => rin_b day 0 65536 W g4)
        by_cases g5 : day < x.day
        · have b5 : decide (day < x.day) = true := decide_eq_true g5
          have e1 : flE C x day = 7 := by unfold flE errH; rw [if_pos ⟨g1, g2, g3⟩, if_pos g4, if_pos g5]
          have e2 : flN C x day = 0 := by unfold flN; rw [if_neg (by omega)]
          rw [e1, e2]
          clear e1 e2
          clear g1 g2 g3 g4
          go_enter Try.func43, Try.ntmps43
          go_wp2_with fail
          rw [HWc.out]
          go_wp2_with fail
          refine (Calls.grown (CLI.out)).mono ?_
          rintro e w1 ⟨rfl, z1, rfl⟩
          go_wp2_with fail
          refine (Calls.gw_of (CON.out _)).mono ?_
          rintro e w1 ⟨rfl, z2, rfl⟩
          go_wp2_with fail
          refine (INB.out _).mono ?_
          rintro e w1 ⟨rfl, rfl⟩
          go_wp2_with fail
          go_ret2
          exact ⟨_, _, rfl, .inl rfl, HBc.out.gw z2⟩
        · have b5 : decide (day < x.day) = false := decide_eq_false g5
          have h0 : flE C x day = 0 := by unfold flE errH; rw [if_pos ⟨g1, g2, g3⟩, if_pos g4, if_neg g5, if_neg (by show ¬ (x.day < (0 : Int) ∧ x.day < day); omega)]
          have hN : flN C x day = C.nA := if_pos h0
          rw [hN, h0]
          clear hN g1 g2 g3 g4
          have H0 := Lib.hid h0; clear h0
          have AT := fun (i : Nat) (hi : i < C.nA) W b (hb : Below W1.heap.size W1 W) (lb : b < W.heap.size) (h0 : W.cell? ⟨b, 0, none⟩ = some (.int .i64 0)) (h1 : W.cell? ⟨b, 1, none⟩ = some (.int .i64 (i : Int))) => rAt_any C x (some ⟨b, 0, none⟩) 1 1 (fun _ => 0) (fun _ => (i : Int)) day W (HC.out.below hb) HF.out (by omega) (spans_one lb h0 h1)
          have AT' := Lib.hid AT; clear AT
          obtain ⟨M, MS, MK⟩ : ∃ M : Array Value, M.size = C.nA ∧ ∀ w : World, (Instr.makeSlice 74 (.int .i64 (C.nA : Int)) (.int .i64 (C.nA : Int))).run Try.prog w = .ok (.slice (some ⟨w.heap.size, 0, none⟩) C.nA C.nA) (w.alloc (.cells M 3)) := by
            refine ⟨madeCells #[.int .i64 0] (C.nA * 1), by rw [size_madeCells]; omega, fun w => ?_⟩
            have := run_make (P := Try.prog) w 74 3 _ _ rfl rfl rfl .i64 .i64 C.nA C.nA (by omega) (by omega) (by show (8 : Int) * _ ≤ _; omega) (by omega)
            simp only [Int.toNat_natCast] at this
            exact this
          have MS := Lib.hid MS
          go_enter Try.func43, Try.ntmps43
          go_wp2_with fail
          rw [HWc.out]
          go_wp2_with fail
          refine (Calls.grown (CLI.out)).mono ?_
          rintro e w1 ⟨rfl, z1, rfl⟩
          go_wp2_with fail
          refine (Calls.gw_of (CON.out _)).mono ?_
          rintro e w1 ⟨rfl, z2, rfl⟩
          go_wp2_with fail
          refine (INB.out _).mono ?_
          rintro e w1 ⟨rfl, rfl⟩
          go_wp2_with fail
          obtain ⟨W2, hW2⟩ : ∃ W2, ((gw W1 z2)).alloc (.cells M 3) = W2 := ⟨_, rfl⟩
          have hbW2 : Below W1.heap.size W1 W2 := by rw [← hW2]; exact (below_gw W1 z2).alloc (by simp [gw_size]) _
          have ZcW2 := Lib.hid ((hbW2.block _ (Array.getElem?_eq_some_iff.1 Zc0.out).1).trans Zc0.out)
          have ZxW2 := Lib.hid ((hbW2.block _ (Array.getElem?_eq_some_iff.1 Zc1.out).1).trans Zc1.out)
          have zlW2 : W2.heap[W1.heap.size + z2.bs.size]? = some (.cells M 3 (0, 0)) := by rw [← hW2]; exact alloc_at (by simp [gw_size])
          have ZlW2 := Lib.hid zlW2; clear zlW2
          have HBW2 := Lib.hid (thru hbW2 HBc.out)
          have SBW2 := Lib.hid hbW2; clear hbW2
          have HWW2 := Lib.hid hW2; clear hW2
          rw [HWW2.out]
          clear c00 c01 c02 c10 c11 c12 c13 c14
          have S2 := Lib.hid SBW2.out
          go_loopw [10] (fun t wr => ∃ (j : Nat) (cur : Array Value), j ≤ C.nA ∧ t = .int .i64 j ∧ wr.heap[W1.heap.size + z2.bs.size]? = some (.cells cur 3 (0, 0)) ∧ Hid (FilledI cur C.nA (flW C x day) (· < j)) ∧ Hid (Below W1.heap.size W1 wr)) (fun t _ => C.nA - (intOf t).toNat)
          case atStart => exact ⟨0, M, Nat.zero_le _, rfl, ZlW2.out, Lib.hid ⟨MS.out, fun k _ h => absurd h (Nat.not_lt_zero k)⟩, S2⟩
          case round =>
            obtain ⟨j, cur, hj, rfl, hcur, HFI, SB⟩ := hrel
            have HCU := Lib.hid hcur; clear hcur
            have HBw := Lib.hid (thru SB.out HBc.out)
            have Y0 := Lib.hid ((SB.out.block _ lc0).trans Zc0.out)
            have Y1 := Lib.hid ((SB.out.block _ lc1).trans Zc1.out)
            have lbl := (Array.getElem?_eq_some_iff.1 HCU.out).1
            have gel : W1.heap.size ≤ W1.heap.size + z2.bs.size := by omega
            by_cases hlt : j < C.nA
            · have EA := flE_all H0.out hlt
              have ATJ := fun W b hb lb h0 h1 => AT'.out j hlt W b hb lb h0 h1
              rw [EA, show atV C x 1 (fun _ => 0) (fun _ => (j : Int)) day = flX C x day j from rfl] at ATJ
              obtain ⟨y, hy⟩ : ∃ y, flX C x day j = y := ⟨_, rfl⟩
              rw [hy] at ATJ
              have HY := Lib.hid (show flW C x day j = y.alo by unfold flW; rw [hy]); clear hy EA
              unfold Cont.val at ATJ
              have ATJ := Lib.hid ATJ
              have j0 : (0 : Int) ≤ (j : Int) := by omega
              have j1 : (j : Int) < (C.nA : Int) := by omega
              have ec0wr : wr.cell? ⟨w.heap.size, 0, none⟩ = some (.int .i64 C.days) := cell_of_block Y0.out 0 (by simp)
              have ec1wr : wr.cell? ⟨w.heap.size, 1, none⟩ = some (.slice C.aA C.nA C.cA) := cell_of_block Y0.out 1 (by simp)
              have ec2wr : wr.cell? ⟨w.heap.size, 2, none⟩ = some (.slice C.aW C.nW C.cW) := cell_of_block Y0.out 2 (by simp)
              have lcwr := (Array.getElem?_eq_some_iff.1 Y0.out).1
              have ex0wr : wr.cell? ⟨w.heap.size + 1, 0, none⟩ = some (.int .i64 x.day) := cell_of_block Y1.out 0 (by simp)
              have ex1wr : wr.cell? ⟨w.heap.size + 1, 1, none⟩ = some (.int .i64 x.alo) := cell_of_block Y1.out 1 (by simp)
              have ex2wr : wr.cell? ⟨w.heap.size + 1, 2, none⟩ = some (.int .i64 x.ahi) := cell_of_block Y1.out 2 (by simp)
              have ex3wr : wr.cell? ⟨w.heap.size + 1, 3, none⟩ = some (.int .i64 x.wlo) := cell_of_block Y1.out 3 (by simp)
              have ex4wr : wr.cell? ⟨w.heap.size + 1, 4, none⟩ = some (.int .i64 x.whi) := cell_of_block Y1.out 4 (by simp)
              have lxwr := (Array.getElem?_eq_some_iff.1 Y1.out).1
              go_wp2_with fail
              obtain ⟨W6, hW6⟩ : ∃ W6, ((wr)).alloc (.cells #[.int .i64 0, .int .i64 j] 53) = W6 := ⟨_, rfl⟩
              have hbW6 : Below wr.heap.size wr W6 := by rw [← hW6]; exact (Below.refl _ wr).alloc (by simp [gw_size]) _
              have ZcW6 := Lib.hid ((hbW6.block _ (Array.getElem?_eq_some_iff.1 Y0.out).1).trans Y0.out)
              have ZxW6 := Lib.hid ((hbW6.block _ (Array.getElem?_eq_some_iff.1 Y1.out).1).trans Y1.out)
              have ztW6 : W6.heap[wr.heap.size]? = some (.cells #[.int .i64 0, .int .i64 j] 53 (0, 0)) := by rw [← hW6]; exact alloc_at (by simp [gw_size])
              have ZtW6 := Lib.hid ztW6; clear ztW6
              have HBW6 := Lib.hid (thru hbW6 HBw.out)
              have SBW6 := Lib.hid hbW6; clear hbW6
              have HWW6 := Lib.hid hW6; clear hW6
              rw [HWW6.out]
              clear ec0wr ec1wr ec2wr ex0wr ex1wr ex2wr ex3wr ex4wr
              have S6 := Lib.hid (SB.out.trans (SBW6.out.mono SB.out.size))
              have et0W6 : W6.cell? ⟨wr.heap.size, 0, none⟩ = some (.int .i64 0) := cell_of_block ZtW6.out 0 (by simp)
              have et1W6 : W6.cell? ⟨wr.heap.size, 1, none⟩ = some (.int .i64 j) := cell_of_block ZtW6.out 1 (by simp)
              have ltW6 := (Array.getElem?_eq_some_iff.1 ZtW6.out).1
              have ATW := Lib.hid (ATJ.out _ _ S6.out ltW6 et0W6 et1W6)
              refine (Calls.grown (ATW.out)).mono ?_
              rintro e w1 ⟨rfl, z51, rfl⟩
              go_upto_region 13 with (fail)
              obtain ⟨W7, hW7⟩ : ∃ W7, ((gw W6 z51)).alloc (.cells #[.int .i64 y.day, .int .i64 y.alo, .int .i64 y.ahi, .int .i64 y.wlo, .int .i64 y.whi] 28) = W7 := ⟨_, rfl⟩
              have hbW7 : Below W6.heap.size W6 W7 := by rw [← hW7]; exact (below_gw W6 z51).alloc (by simp [gw_size]) _
              have ZcW7 := Lib.hid ((hbW7.block _ (Array.getElem?_eq_some_iff.1 ZcW6.out).1).trans ZcW6.out)
              have ZxW7 := Lib.hid ((hbW7.block _ (Array.getElem?_eq_some_iff.1 ZxW6.out).1).trans ZxW6.out)
              have ZtW7 := Lib.hid ((hbW7.block _ (Array.getElem?_eq_some_iff.1 ZtW6.out).1).trans ZtW6.out)
              have zyW7 : W7.heap[W6.heap.size + z51.bs.size]? = some (.cells #[.int .i64 y.day, .int .i64 y.alo, .int .i64 y.ahi, .int .i64 y.wlo, .int .i64 y.whi] 28 (0, 0)) := by rw [← hW7]; exact alloc_at (by simp [gw_size])
              have ZyW7 := Lib.hid zyW7; clear zyW7
              have HBW7 := Lib.hid (thru hbW7 HBW6.out)
              have SBW7 := Lib.hid hbW7; clear hbW7
              have HWW7 := Lib.hid hW7; clear hW7
              rw [HWW7.out]
              clear et0W6 et1W6
              have S7 := Lib.hid (S6.out.trans (SBW7.out.mono S6.out.size))
              have ey0W7 : W7.cell? ⟨W6.heap.size + z51.bs.size, 0, none⟩ = some (.int .i64 y.day) := cell_of_block ZyW7.out 0 (by simp)
              have ey1W7 : W7.cell? ⟨W6.heap.size + z51.bs.size, 1, none⟩ = some (.int .i64 y.alo) := cell_of_block ZyW7.out 1 (by simp)
              have ey2W7 : W7.cell? ⟨W6.heap.size + z51.bs.size, 2, none⟩ = some (.int .i64 y.ahi) := cell_of_block ZyW7.out 2 (by simp)
              have ey3W7 : W7.cell? ⟨W6.heap.size + z51.bs.size, 3, none⟩ = some (.int .i64 y.wlo) := cell_of_block ZyW7.out 3 (by simp)
              have ey4W7 : W7.cell? ⟨W6.heap.size + z51.bs.size, 4, none⟩ = some (.int .i64 y.whi) := cell_of_block ZyW7.out 4 (by simp)
              have lyW7 := (Array.getElem?_eq_some_iff.1 ZyW7.out).1
              have BX := Lib.hid (thru SBW7.out SBW6.out)
              have CX := Lib.hid ((BX.out.block _ lbl).trans HCU.out)
              have fx := frozen_of_block CX.out j
              have lx := Nat.lt_of_lt_of_le lbl BX.out.size
              obtain ⟨cu, hcu⟩ : ∃ u, W7.cell? ⟨W1.heap.size + z2.bs.size, j, none⟩ = some u := by rw [cell_of_row W7 _ j _ _ _ CX.out]; exact ⟨_, Array.getElem?_eq_getElem (by rw [HFI.out.1]; exact hlt)⟩
              have SX := block_set j (.int .i64 y.alo) CX.out
              have FX := HFI.out.set (K' := (· < j + 1)) j (by omega) (fun k _ h => by rcases Nat.lt_succ_iff_lt_or_eq.1 h with h | h; exact .inr ⟨Nat.ne_of_lt h, h⟩; exact .inl h)
              rw [HY.out] at FX
              have SXH := Lib.hid SX; clear SX
              have FXH := Lib.hid FX; clear FX
              have BY := Lib.hid (S7.out.setCell (p := ⟨W1.heap.size + z2.bs.size, j, none⟩) (by simp <;> omega) (.int .i64 y.alo))
              go_wp2_with fail
              go_roundw
              case rel => exact ⟨j + 1, _, by omega, by go_num, SXH.out, FXH, BY⟩
              case measure => simp [intOf]; omega
            · obtain rfl : j = C.nA := by omega
              obtain ⟨wo, rfl⟩ : ∃ wo : World, wo = wr := ⟨_, rfl⟩
              have MSO := MS
              go_wp2_with fail
              obtain ⟨W9, hW9⟩ : ∃ W9, ((wo)).alloc (.cells M 3) = W9 := ⟨_, rfl⟩
              have hbW9 : Below wo.heap.size wo W9 := by rw [← hW9]; exact (Below.refl _ wo).alloc (by simp [gw_size]) _
              have ZcW9 := Lib.hid ((hbW9.block _ (Array.getElem?_eq_some_iff.1 Y0.out).1).trans Y0.out)
              have ZxW9 := Lib.hid ((hbW9.block _ (Array.getElem?_eq_some_iff.1 Y1.out).1).trans Y1.out)
              have zoW9 : W9.heap[wo.heap.size]? = some (.cells M 3 (0, 0)) := by rw [← hW9]; exact alloc_at (by simp [gw_size])
              have ZoW9 := Lib.hid zoW9; clear zoW9
              have HBW9 := Lib.hid (thru hbW9 HBw.out)
              have SBW9 := Lib.hid hbW9; clear hbW9
              have HWW9 := Lib.hid hW9; clear hW9
              rw [HWW9.out]
              have S9 := Lib.hid (SB.out.trans (SBW9.out.mono SB.out.size))
              skip
              have LL := Lib.hid ((SBW9.out.block _ lbl).trans HCU.out)
              go_loopw [14] (fun t wr => ∃ (i : Nat) (out : Array Value), i ≤ C.nA ∧ t = .int .i64 i ∧ wr.heap[W1.heap.size + z2.bs.size]? = some (.cells cur 3 (0, 0)) ∧ wr.heap[wo.heap.size]? = some (.cells out 3 (0, 0)) ∧ Hid (FilledI out C.nA (flD C x day) (fun k => flI C x day k < i)) ∧ Hid (Below W1.heap.size W1 wr)) (fun t _ => C.nA - (intOf t).toNat)
              case atStart => exact ⟨0, M, Nat.zero_le _, rfl, LL.out, ZoW9.out, Lib.hid ⟨MSO.out, fun k _ h => absurd h (Nat.not_lt_zero _)⟩, S9⟩
              case round =>
                obtain ⟨i, out, hi, rfl, hl1, ho1, HFO, SB2⟩ := hrel
                have HL1 := Lib.hid hl1; clear hl1
                have HO1 := Lib.hid ho1; clear ho1
                have HBw2 := Lib.hid (thru SB2.out HBc.out)
                have ll1 := (Array.getElem?_eq_some_iff.1 HL1.out).1
                have lo1 := (Array.getElem?_eq_some_iff.1 HO1.out).1
                have leo : W1.heap.size + z2.bs.size ≠ wo.heap.size := by omega
                have geo : W1.heap.size ≤ wo.heap.size := by have := SB.out.size; omega
                by_cases hlt : i < C.nA
                · obtain ⟨wi, rfl⟩ : ∃ wi : World, wi = wr := ⟨_, rfl⟩
                  have q1 := filled_cell HL1.out HFI.out hlt hlt
                  have i0 : (0 : Int) ≤ (i : Int) := by omega
                  have i1 : (i : Int) < (C.nA : Int) := by omega
                  obtain ⟨PL, PE⟩ := flI_place H0.out hlt
                  have HPE := Lib.hid PE; clear PE
                  go_wp2_with fail
                  go_loopw [15, 16] (fun t u wq => ∃ k : Nat, k ≤ C.nA ∧ u = .int .i64 k ∧ t = .int .i64 (cntB C x day i k) ∧ ∃ z, wq = gw wi z) (fun _ u _ => C.nA - (intOf u).toNat)
                  case atStart => exact ⟨0, Nat.zero_le _, rfl, rfl, ⟨#[], wi.drawn⟩, by simp [gw]⟩
                  case round =>
                    obtain ⟨k, hk, rfl, rfl, z, rfl⟩ := hrel
                    by_cases hltk : k < C.nA
                    · have q2 := filled_cell HL1.out HFI.out hltk hltk
                      have k0 : (0 : Int) ≤ (k : Int) := by omega
                      have k1 : (k : Int) < (C.nA : Int) := by omega
                      have cle := cntB_le (C := C) (x := x) (day := day) i k
                      have CS := cntB_succ (C := C) (x := x) (day := day) i k
                      have BE : befB C x day i k = decide (flW C x day i < flW C x day k ∨ flW C x day k = flW C x day i ∧ k < i) := rfl
                      rw [BE] at CS
                      clear BE
                      generalize cntB C x day i k = cn at *
                      have HCS := Lib.hid CS; clear CS
                      generalize flW C x day i = lwi at *
                      generalize flW C x day k = lwk at *
                      by_cases p1 : lwi < lwk
                      · have b1 : decide (lwi < lwk) = true := decide_eq_true p1
                        have CE := Lib.hid (show cntB C x day i (k + 1) = cn + 1 by rw [HCS.out]; simp; omega)
                        clear HCS
                        go_wp2_with fail
                        refine wp_region_gw2 (by kernel_rfl) (by kernel_rfl) ?_
                        repeat (go_big_quiet_step (fail))
                        refine wpQuiet_nil ?_
                        rintro _ ⟨z2, rfl⟩
                        go_wp2_with fail
                        go_roundw
                        case rel => exact ⟨k + 1, by omega, by go_num, by rw [CE.out]; go_num, z2, rfl⟩
                        case measure => simp [intOf]; omega
                      · have b1 : decide (lwi < lwk) = false := decide_eq_false p1
                        by_cases p2 : lwk = lwi
                        · have b2 : (lwk == lwi) = true := by simpa using p2
                          by_cases p3 : k < i
                          · have b3 : decide (k < i) = true := decide_eq_true p3
                            have b4 : decide ((k : Int) < (i : Int)) = true := decide_eq_true (by omega)
                            have CE := Lib.hid (show cntB C x day i (k + 1) = cn + 1 by rw [HCS.out]; simp; omega)
                            clear HCS
                            go_wp2_with fail
                            refine wp_region_gw2 (by kernel_rfl) (by kernel_rfl) ?_
                            repeat (go_big_quiet_step (fail))
                            refine wpQuiet_nil ?_
                            rintro _ ⟨z2, rfl⟩
                            go_wp2_with fail
                            go_roundw
                            case rel => exact ⟨k + 1, by omega, by go_num, by rw [CE.out]; go_num, z2, rfl⟩
                            case measure => simp [intOf]; omega
                          · have b3 : decide (k < i) = false := decide_eq_false p3
                            have b4 : decide ((k : Int) < (i : Int)) = false := decide_eq_false (by omega)
                            have CE := Lib.hid (show cntB C x day i (k + 1) = cn + 0 by rw [HCS.out]; simp; omega)
                            clear HCS
                            go_wp2_with fail
                            refine wp_region_gw2 (by kernel_rfl) (by kernel_rfl) ?_
                            repeat (go_big_quiet_step (fail))
                            refine wpQuiet_nil ?_
                            rintro _ ⟨z2, rfl⟩
                            go_wp2_with fail
                            go_roundw
                            case rel => exact ⟨k + 1, by omega, by go_num, by rw [CE.out]; rfl, z2, rfl⟩
                            case measure => simp [intOf]; omega
                        · have b2 : (lwk == lwi) = false := by simpa using p2
                          have CE := Lib.hid (show cntB C x day i (k + 1) = cn + 0 by rw [HCS.out]; simp; omega)
                          clear HCS
                          go_wp2_with fail
                          refine wp_region_gw2 (by kernel_rfl) (by kernel_rfl) ?_
                          repeat (go_big_quiet_step (fail))
                          refine wpQuiet_nil ?_
                          rintro _ ⟨z2, rfl⟩
                          go_wp2_with fail
                          go_roundw
                          case rel => exact ⟨k + 1, by omega, by go_num, by rw [CE.out]; rfl, z2, rfl⟩
                          case measure => simp [intOf]; omega
                    · obtain rfl : k = C.nA := by omega
                      have FS := HFO.out.set (K' := fun k => flI C x day k < i + 1) (cntB C x day i C.nA) PL (fun k hk h => by
                        by_cases e : k = cntB C x day i C.nA
                        · exact .inl e
                        · refine .inr ⟨e, ?_⟩
                          rcases Nat.lt_succ_iff_lt_or_eq.1 h with h | h
                          · exact h
                          · exfalso
                            rcases Nat.lt_trichotomy k (cntB C x day i C.nA) with h2 | h2 | h2
                            · exact flI_inj H0.out hk PL h2 (by rw [h, HPE.out])
                            · exact e h2
                            · exact flI_inj H0.out PL hk h2 (by rw [h, HPE.out]))
                      rw [show flD C x day (cntB C x day i C.nA) = (i : Int) by unfold flD; exact congrArg Int.ofNat HPE.out] at FS
                      generalize cntB C x day i C.nA = p at *
                      have p0 : (0 : Int) ≤ (p : Int) := by omega
                      have p1 : (p : Int) < (C.nA : Int) := by omega
                      have FSH := Lib.hid FS; clear FS
                      have SXO := Lib.hid (block_set p (.int .i64 (i : Int)) (((below_gw wi z).block _ lo1).trans HO1.out))
                      have fo := frozen_of_block HO1.out p
                      have cp : ∃ u, wi.cell? ⟨wo.heap.size, p, none⟩ = some u := by rw [cell_of_row wi _ p _ _ _ HO1.out]; exact ⟨_, Array.getElem?_eq_getElem (by rw [HFO.out.1]; exact PL)⟩
                      obtain ⟨cu, hcu⟩ := cp
                      have LXO := Lib.hid ((Below.heap_setCell (gw wi z) ⟨wo.heap.size, p, none⟩ (.int .i64 (i : Int)) (W1.heap.size + z2.bs.size) (by simpa using leo)).trans (((below_gw wi z).block _ ll1).trans HL1.out))
                      have BYO := Lib.hid ((SB2.out.trans ((below_gw wi z).mono SB2.out.size)).setCell (p := ⟨wo.heap.size, p, none⟩) (by simp <;> omega) (.int .i64 (i : Int)))
                      go_wp2_with fail
                      go_roundw
                      case rel => exact ⟨i + 1, _, by omega, by go_num, LXO.out, SXO.out, FSH, BYO⟩
                      case measure => simp [intOf]; omega
                · obtain rfl : i = C.nA := by omega
                  go_wp2_with fail
                  go_ret2
                  exact ⟨_, _, rfl, .inr ⟨_, 0, rfl, lo1, fun k hk => by rw [Nat.zero_add]; exact filled_cell HO1.out HFO.out hk (flI_ok H0.out hk).1⟩, HBw2.out⟩
end Go.Proofs.Ytljofnmgddfljaa
