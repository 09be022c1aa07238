/- Contract of Yeast (reference). No conditions beyond each theorem's own. -/
import Derived.Test.YtfefmgadfklgmaaBh
import Derived.Test.YtfefmgadfklgmaaBo
set_option linter.unusedVariables false
set_option linter.unusedSimpArgs false
set_option linter.unusedSectionVars false
set_option linter.constructorNameAsVariable false
namespace Go.Proofs.Ytfefmgadfklgmaa
open Go.RowKit

attribute [local go_sem] gw_cell gw_frozen gw_size

theorem yst_rate {y : Yst} {j : Nat} (hj : j < y.nR) (h : inSp 1000 y.A y.B j = false) : ystB y = false := by unfold ystB; rw [allB_f hj h]; simp

set_option maxRecDepth 100000 in
set_option maxHeartbeats 8000000 in
theorem rYeast_any (y : Yst) (w : World) (hI : y.In w) (hf : y.Fits) : Calls Try.prog 5 #[y.val] w fun e w' => e = .returned (.bool (ystB y)) ∧ Below w.heap.size w w' := by
  unfold Yst.val
  obtain ⟨W1, hW1⟩ : ∃ W1, w.alloc (.cells #[.slice y.aT y.nT y.cT, .slice y.aR y.nR y.cR, .int .i64 y.sl, .int .i64 y.sh, .int .i64 y.gl, .int .i64 y.gh, .int .i64 y.hl, .int .i64 y.hh] 32) = W1 := ⟨_, rfl⟩
  have hBc : Below w.heap.size w W1 := by rw [← hW1]; exact below_alloc _ _
  have zc0 : W1.heap[w.heap.size]? = some (.cells #[.slice y.aT y.nT y.cT, .slice y.aR y.nR y.cR, .int .i64 y.sl, .int .i64 y.sh, .int .i64 y.gl, .int .i64 y.gh, .int .i64 y.hl, .int .i64 y.hh] 32 (0, 0)) := by rw [← hW1]; exact alloc_at rfl
  have c00 : W1.cell? ⟨w.heap.size, 0, none⟩ = some (.slice y.aT y.nT y.cT) := cell_of_block zc0 0 (by simp)
  have c01 : W1.cell? ⟨w.heap.size, 1, none⟩ = some (.slice y.aR y.nR y.cR) := cell_of_block zc0 1 (by simp)
  have c02 : W1.cell? ⟨w.heap.size, 2, none⟩ = some (.int .i64 y.sl) := cell_of_block zc0 2 (by simp)
  have c03 : W1.cell? ⟨w.heap.size, 3, none⟩ = some (.int .i64 y.sh) := cell_of_block zc0 3 (by simp)
  have c04 : W1.cell? ⟨w.heap.size, 4, none⟩ = some (.int .i64 y.gl) := cell_of_block zc0 4 (by simp)
  have c05 : W1.cell? ⟨w.heap.size, 5, none⟩ = some (.int .i64 y.gh) := cell_of_block zc0 5 (by simp)
  have c06 : W1.cell? ⟨w.heap.size, 6, none⟩ = some (.int .i64 y.hl) := cell_of_block zc0 6 (by simp)
  have c07 : W1.cell? ⟨w.heap.size, 7, none⟩ = some (.int .i64 y.hh) := cell_of_block zc0 7 (by simp)
  have lc0 := (Array.getElem?_eq_some_iff.1 zc0).1
  clear zc0
  have HBc := Lib.hid hBc; clear hBc
  have HWc := Lib.hid hW1; clear hW1
  have HT := Lib.hid (hI.t.below HBc.out)
  have HR := Lib.hid (hI.r.below HBc.out)
  obtain ⟨hf1, hf2, hf3, hf4⟩ := hf
  clear hI
  by_cases n1 : 16 < y.nT
  · go_enter Try.func5, Try.ntmps5
    go_wp2_with fail
    rw [HWc.out]
    go_wp2_with fail
    go_ret
    exact ⟨by rw [yst_head (y := y) (by unfold ystH; rw [decide_eq_false (by omega : ¬ y.nT ≤ 16)]; rfl)]; rfl, HBc.out⟩
  · by_cases n2 : y.nR = y.nT + 1
    rotate_left
    · have nn : ((y.nR : Int) != (y.nT : Int) + 1) = true := by simp; omega
      go_enter Try.func5, Try.ntmps5
      go_wp2_with fail
      rw [HWc.out]
      go_wp2_with fail
      go_ret
      exact ⟨by rw [yst_head (y := y) (by unfold ystH; simp [n2])]; rfl, HBc.out⟩
    · have nn : ((y.nR : Int) != (y.nT : Int) + 1) = false := by simp; omega
      have YH := Lib.hid (show ystH y = true by unfold ystH; simp [n2]; omega)
      clear n2
      go_enter Try.func5, Try.ntmps5
      go_wp2_with fail
      rw [HWc.out]
      go_wp2_with fail
      go_loopw [3] (fun t wr => ∃ j : Nat, j ≤ y.nT ∧ t = .int .i64 j ∧ Hid (∀ i, i < j → tempB y.T i = true) ∧ ∃ x, wr = gw W1 x) (fun t _ => y.nT - (intOf t).toNat)
      case atStart => exact ⟨0, Nat.zero_le _, rfl, Lib.hid (fun _ h => by omega), ⟨#[], W1.drawn⟩, by simp [gw]⟩
      case round =>
        obtain ⟨j, hj, rfl, OK, z1, rfl⟩ := hrel
        by_cases hlt : j < y.nT
        · rcases HT.out with hz | ⟨b, off, ea, lb, hc⟩
          · omega
          · have m0 := hc j hlt
            have m1 : 0 < j → W1.cell? ⟨b, off + (j - 1), none⟩ = some (.int .i64 (y.T (j - 1))) := fun _ => hc (j - 1) (by omega)
            clear hc
            rw [ea] at c00; clear ea
            cases t0 : inB (y.T j) (-50000) 150000 with
            | false =>
              have HP := Lib.hid (tempB_bad t0)
              have T0 := Lib.hid t0; clear t0
              go_wp2_with fail
              refine wp_region_gw2 (by kernel_rfl) (by kernel_rfl) ?_
              repeat (go_big_quiet_step (first | (go_at_call 14; exact (rin_b (y.T j) (-50000) 150000 _ T0.out).mono (fun e w h => ⟨h.1, _, h.2.symm⟩))))
              refine wpQuiet_nil ?_
              rintro _ ⟨z2, rfl⟩
              go_wp2_with fail
              go_ret
              exact ⟨by rw [yst_temp hlt HP.out]; rfl, HBc.out.gw z2⟩
            | true =>
              by_cases z : j = 0
              · subst z
                have HP := Lib.hid (tempB_zero t0)
                have T0 := Lib.hid t0; clear t0
                clear m1
                rw [Nat.add_zero] at m0
                go_wp2_with fail
                refine wp_region_gw2 (by kernel_rfl) (by kernel_rfl) ?_
                repeat (go_big_quiet_step (first | (go_at_call 14; exact (rin_b (y.T 0) (-50000) 150000 _ T0.out).mono (fun e w h => ⟨h.1, _, h.2.symm⟩))))
                refine wpQuiet_nil ?_
                rintro _ ⟨z2, rfl⟩
                go_wp2_with fail
                go_roundw
                case rel => first | exact ⟨0 + 1, by omega, by go_num, Lib.hid (all_succ (P := fun i => tempB y.T i = true) OK.out HP.out), z2, rfl⟩ | exact ⟨_, ⟨0 + 1, by omega, by go_num, Lib.hid (all_succ (P := fun i => tempB y.T i = true) OK.out HP.out), z2, rfl⟩, rfl⟩
                case measure => simp [intOf]; omega
              · have m1 := m1 (by omega)
                obtain ⟨i, rfl⟩ : ∃ i, j = i + 1 := ⟨j - 1, by omega⟩
                simp only [Nat.add_sub_cancel] at m1
                by_cases up : y.T i < y.T (i + 1)
                · have HP := Lib.hid (tempB_up t0 (by simpa using up))
                  have up2 : ¬ y.T (i + 1) ≤ y.T i := by omega
                  have T0 := Lib.hid t0; clear t0
                  go_wp2_with fail
                  refine wp_region_gw2 (by kernel_rfl) (by kernel_rfl) ?_
                  repeat (go_big_quiet_step (first | (go_at_call 14; exact (rin_b (y.T (i + 1)) (-50000) 150000 _ T0.out).mono (fun e w h => ⟨h.1, _, h.2.symm⟩))))
                  refine wpQuiet_nil ?_
                  rintro _ ⟨z2, rfl⟩
                  go_wp2_with fail
                  go_roundw
                  case rel => first | exact ⟨i + 1 + 1, by omega, by go_num, Lib.hid (all_succ (P := fun i => tempB y.T i = true) OK.out HP.out), z2, rfl⟩ | exact ⟨_, ⟨i + 1 + 1, by omega, by go_num, Lib.hid (all_succ (P := fun i => tempB y.T i = true) OK.out HP.out), z2, rfl⟩, rfl⟩
                  case measure => simp [intOf]; omega
                · have HP := Lib.hid (tempB_down (T := y.T) (j := i + 1) (by omega) (by simpa using up))
                  have up2 : y.T (i + 1) ≤ y.T i := by omega
                  have T0 := Lib.hid t0; clear t0
                  go_wp2_with fail
                  refine wp_region_gw2 (by kernel_rfl) (by kernel_rfl) ?_
                  repeat (go_big_quiet_step (first | (go_at_call 14; exact (rin_b (y.T (i + 1)) (-50000) 150000 _ T0.out).mono (fun e w h => ⟨h.1, _, h.2.symm⟩))))
                  refine wpQuiet_nil ?_
                  rintro _ ⟨z2, rfl⟩
                  go_wp2_with fail
                  go_ret
                  exact ⟨by rw [yst_temp hlt HP.out]; rfl, HBc.out.gw z2⟩
        · have hjn : j = y.nT := by omega
          have HA := Lib.hid (show allB y.nT (tempB y.T) = true from allB_t.2 (fun i hi => OK.out i (by omega))); clear OK hjn
          go_wp2_with fail
          go_loopw [4] (fun t wr => ∃ q : Nat, q ≤ y.nR ∧ t = .int .i64 q ∧ Hid (∀ i, i < q → inSp 1000 y.A y.B i = true) ∧ ∃ x, wr = gw W1 x) (fun t _ => y.nR - (intOf t).toNat)
          case atStart => exact ⟨0, Nat.zero_le _, rfl, Lib.hid (fun _ h => by omega), z1, rfl⟩
          case round =>
            obtain ⟨q, hq, rfl, OK, z3, rfl⟩ := hrel
            by_cases hlq : q < y.nR
            · rcases HR.out with hz | ⟨b, off, ea, lb, hc⟩
              · omega
              · obtain ⟨q0, q1⟩ := hc q hlq
                clear hc
                rw [ea] at c01; clear ea
                cases t0 : inSp 1000 y.A y.B q with
                | false =>
                  have T0 := Lib.hid (show spanB (y.A q) (y.B q) 0 1000 = false from t0)
                  have HP := Lib.hid t0; clear t0
                  go_wp2_with fail
                  refine (Calls.gw_of (rwithin_b (y.A q) (y.B q) 0 1000 _ T0.out)).mono ?_
                  rintro e w1 ⟨rfl, z4, rfl⟩
                  go_wp2_with fail
                  go_ret
                  exact ⟨by rw [yst_rate hlq HP.out]; rfl, HBc.out.gw z4⟩
                | true =>
                  have T0 := Lib.hid (show spanB (y.A q) (y.B q) 0 1000 = true from t0)
                  have HP := Lib.hid t0; clear t0
                  go_wp2_with fail
                  refine (Calls.gw_of (rwithin_b (y.A q) (y.B q) 0 1000 _ T0.out)).mono ?_
                  rintro e w1 ⟨rfl, z4, rfl⟩
                  go_wp2_with fail
                  go_roundw
                  case rel => first | exact ⟨q + 1, by omega, by go_num, Lib.hid (all_succ (P := fun i => inSp 1000 y.A y.B i = true) OK.out HP.out), z4, rfl⟩ | exact ⟨_, ⟨q + 1, by omega, by go_num, Lib.hid (all_succ (P := fun i => inSp 1000 y.A y.B i = true) OK.out HP.out), z4, rfl⟩, rfl⟩
                  case measure => simp [intOf]; omega
            · have hqn : q = y.nR := by omega
              have HC := Lib.hid (show allB y.nR (inSp 1000 y.A y.B) = true from allB_t.2 (fun i hi => OK.out i (by omega))); clear OK
              cases u1 : spanB y.sl y.sh 0 1000 with
              | false =>
                have YT := Lib.hid (yst_tail (b := false) YH.out HA.out (by rw [HC.out]; unfold ystG; simp [u1]))
                have U1 := Lib.hid u1; clear u1
                go_wp2_with fail
                refine (Calls.gw_of (rwithin_b y.sl y.sh 0 1000 _ U1.out)).mono ?_
                rintro e w1 ⟨rfl, z4, rfl⟩
                go_wp2_with fail
                go_ret
                exact ⟨by rw [YT.out]; rfl, HBc.out.gw z4⟩
              | true =>
                cases u2 : spanB y.gl y.gh 0 1000 with
                | false =>
                  have YT := Lib.hid (yst_tail (b := false) YH.out HA.out (by rw [HC.out]; unfold ystG; simp [u1, u2]))
                  have U1 := Lib.hid u1; clear u1
                  have U2 := Lib.hid u2; clear u2
                  go_wp2_with fail
                  refine (Calls.gw_of (rwithin_b y.sl y.sh 0 1000 _ U1.out)).mono ?_
                  rintro e w1 ⟨rfl, z4, rfl⟩
                  go_wp2_with fail
                  refine (Calls.gw_of (rwithin_b y.gl y.gh 0 1000 _ U2.out)).mono ?_
                  rintro e w1 ⟨rfl, z5, rfl⟩
                  go_wp2_with fail
                  go_ret
                  exact ⟨by rw [YT.out]; rfl, HBc.out.gw z5⟩
                | true =>
                  cases u3 : spanB y.hl y.hh 0 10000 with
                  | false =>
                    have YT := Lib.hid (yst_tail (b := false) YH.out HA.out (by rw [HC.out]; unfold ystG; simp [u1, u2, u3]))
                    have U1 := Lib.hid u1; clear u1
                    have U2 := Lib.hid u2; clear u2
                    have U3 := Lib.hid u3; clear u3
                    go_wp2_with fail
                    refine (Calls.gw_of (rwithin_b y.sl y.sh 0 1000 _ U1.out)).mono ?_
                    rintro e w1 ⟨rfl, z4, rfl⟩
                    go_wp2_with fail
                    refine (Calls.gw_of (rwithin_b y.gl y.gh 0 1000 _ U2.out)).mono ?_
                    rintro e w1 ⟨rfl, z5, rfl⟩
                    go_wp2_with fail
                    refine (Calls.gw_of (rwithin_b y.hl y.hh 0 10000 _ U3.out)).mono ?_
                    rintro e w1 ⟨rfl, z6, rfl⟩
                    go_wp2_with fail
                    go_ret
                    exact ⟨by rw [YT.out]; rfl, HBc.out.gw z6⟩
                  | true =>
                    have YT := Lib.hid (yst_tail (b := true) YH.out HA.out (by rw [HC.out]; unfold ystG; simp [u1, u2, u3]))
                    have U1 := Lib.hid u1; clear u1
                    have U2 := Lib.hid u2; clear u2
                    have U3 := Lib.hid u3; clear u3
                    go_wp2_with fail
                    refine (Calls.gw_of (rwithin_b y.sl y.sh 0 1000 _ U1.out)).mono ?_
                    rintro e w1 ⟨rfl, z4, rfl⟩
                    go_wp2_with fail
                    refine (Calls.gw_of (rwithin_b y.gl y.gh 0 1000 _ U2.out)).mono ?_
                    rintro e w1 ⟨rfl, z5, rfl⟩
                    go_wp2_with fail
                    refine (Calls.gw_of (rwithin_b y.hl y.hh 0 10000 _ U3.out)).mono ?_
                    rintro e w1 ⟨rfl, z6, rfl⟩
                    go_wp2_with fail
                    go_ret
                    exact ⟨by rw [YT.out]; rfl, HBc.out.gw z6⟩
theorem rYeast_b {b : Bool} (y : Yst) (w : World) (hI : y.In w) (hf : y.Fits) (h : ystB y = b) : Calls Try.prog 5 #[y.val] w fun e w' => e = .returned (.bool b) ∧ Below w.heap.size w w' := h ▸ rYeast_any y w hI hf
end Go.Proofs.Ytfefmgadfklgmaa
