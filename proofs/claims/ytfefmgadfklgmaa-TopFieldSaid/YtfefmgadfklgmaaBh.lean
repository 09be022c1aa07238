/- Contract of isYeast. No conditions beyond each theorem's own. -/
import Derived.Test.YtfefmgadfklgmaaBg
set_option linter.unusedVariables false
set_option linter.unusedSimpArgs false
set_option linter.unusedSectionVars false
set_option linter.constructorNameAsVariable false
namespace Go.Proofs.Ytfefmgadfklgmaa
open Go.RowKit

attribute [local go_sem] gw_cell gw_frozen gw_size

theorem tempB_zero {T : Nat → Int} (h : inB (T 0) (-50000) 150000 = true) : tempB T 0 = true := by unfold tempB; rw [h]; rfl
theorem tempB_bad {T : Nat → Int} {j : Nat} (h : inB (T j) (-50000) 150000 = false) : tempB T j = false := by unfold tempB; rw [h]; rfl
theorem tempB_up {T : Nat → Int} {j : Nat} (h : inB (T j) (-50000) 150000 = true) (h2 : T (j - 1) < T j) : tempB T j = true := by unfold tempB; rw [h]; simp [h2]
theorem tempB_down {T : Nat → Int} {j : Nat} (h0 : 0 < j) (h2 : ¬ T (j - 1) < T j) : tempB T j = false := by unfold tempB; simp [h2]; omega
theorem yst_head {y : Yst} (h : ystH y = false) : ystB y = false := by unfold ystB; rw [h]; rfl
theorem yst_temp {y : Yst} {j : Nat} (hj : j < y.nT) (h : tempB y.T j = false) : ystB y = false := by unfold ystB; rw [allB_f hj h]; simp
theorem yst_tail {y : Yst} {b : Bool} (h : ystH y = true) (h2 : allB y.nT (tempB y.T) = true) (h3 : (allB y.nR (inSp 1000 y.A y.B) && ystG y) = b) : ystB y = b := by unfold ystB; rw [h, h2, h3]; rfl

set_option maxRecDepth 100000 in
set_option maxHeartbeats 4000000 in
theorem isYeast_any (y : Yst) (w : World) (hI : y.In w) (hf : y.Fits) : Calls Try.prog 29 #[y.val] w fun e w' => e = .returned (.bool (ystB y)) ∧ Below w.heap.size w w' := by
  unfold Yst.val
  obtain ⟨W1, hW1⟩ : ∃ W1, w.alloc (.cells #[.slice y.aT y.nT y.cT, .slice y.aR y.nR y.cR, .int .i64 y.sl, .int .i64 y.sh, .int .i64 y.gl, .int .i64 y.gh, .int .i64 y.hl, .int .i64 y.hh] 32) = W1 := ⟨_, rfl⟩
  have hBc : Below w.heap.size w W1 := by rw [← hW1]; exact below_alloc _ _
  have zc0 : W1.heap[w.heap.size]? = some (.cells #[.slice y.aT y.nT y.cT, .slice y.aR y.nR y.cR, .int .i64 y.sl, .int .i64 y.sh, .int .i64 y.gl, .int .i64 y.gh, .int .i64 y.hl, .int .i64 y.hh] 32 (0, 0)) := by rw [← hW1]; exact alloc_at rfl
  have c00 : W1.cell? ⟨w.heap.size, 0, none⟩ = some (.slice y.aT y.nT y.cT) := cell_of_block zc0 0 (by simp)
  have c01 : W1.cell? ⟨w.heap.size, 1, none⟩ = some (.slice y.aR y.nR y.cR) := cell_of_block zc0 1 (by simp)
  have c02 : W1.cell? ⟨w.heap.size, 2, none⟩ = some (.int .i64 y.sl) := cell_of_block zc0 2 (by simp)
  have c03 : W1.cell? ⟨w.heap.size, 3, none⟩ = some (.int .i64 y.sh) := cell_of_block zc0 3 (by simp)
  have c04 : W1.cell? ⟨w.heap.size, 4, none⟩ = some (.int .i64 y.gl) := cell_of_block zc0 4 (by simp)
  have c05 : W1.cell? ⟨w.heap.size, 5, none⟩ = some (.int .i64 y.gh) := cell_of_block zc0 5 (by simp)
  have c06 : W1.cell? ⟨w.heap.size, 6, none⟩ = some (.int .i64 y.hl) := cell_of_block zc0 6 (by simp)
  have c07 : W1.cell? ⟨w.heap.size, 7, none⟩ = some (.int .i64 y.hh) := cell_of_block zc0 7 (by simp)
  have lc0 := (Array.getElem?_eq_some_iff.1 zc0).1
  clear zc0
  have HBc := Lib.hid hBc; clear hBc
  have HWc := Lib.hid hW1; clear hW1
  have HT := Lib.hid (hI.t.below HBc.out)
  have HR := Lib.hid (hI.r.below HBc.out)
  obtain ⟨hf1, hf2, hf3, hf4⟩ := hf
  clear hI
  have HR1 := Lib.hid (fun W (hb : Below W1.heap.size W1 W) => hasRate y.aR y.nR y.cR y.A y.B W hf2 (HR.out.below hb))
  by_cases n1 : 16 < y.nT
  · go_enter Try.func29, Try.ntmps29
    go_wp2_with fail
    rw [HWc.out]
    go_wp2_with fail
    go_ret
    exact ⟨by rw [yst_head (y := y) (by unfold ystH; rw [decide_eq_false (by omega : ¬ y.nT ≤ 16)]; rfl)]; rfl, HBc.out⟩
  · by_cases n2 : y.nR = y.nT + 1
    rotate_left
    · have nn : ((y.nR : Int) != (y.nT : Int) + 1) = true := by simp; omega
      go_enter Try.func29, Try.ntmps29
      go_wp2_with fail
      rw [HWc.out]
      go_wp2_with fail
      go_ret
      exact ⟨by rw [yst_head (y := y) (by unfold ystH; simp [n2])]; rfl, HBc.out⟩
    · have nn : ((y.nR : Int) != (y.nT : Int) + 1) = false := by simp; omega
      have YH := Lib.hid (show ystH y = true by unfold ystH; simp [n2]; omega)
      clear n2
      go_enter Try.func29, Try.ntmps29
      go_wp2_with fail
      rw [HWc.out]
      go_wp2_with fail
      go_loopw [23] (fun t wr => ∃ j : Nat, j ≤ y.nT ∧ t = .int .i64 j ∧ Hid (∀ i, i < j → tempB y.T i = true) ∧ W1 = wr) (fun t _ => y.nT - (intOf t).toNat)
      case atStart => exact ⟨0, Nat.zero_le _, rfl, Lib.hid (fun _ h => by omega), rfl⟩
      case round =>
        obtain ⟨j, hj, rfl, OK, rfl⟩ := hrel
        by_cases hlt : j < y.nT
        · rcases HT.out with hz | ⟨b, off, ea, lb, hc⟩
          · omega
          · have m0 := hc j hlt
            have m1 : 0 < j → W1.cell? ⟨b, off + (j - 1), none⟩ = some (.int .i64 (y.T (j - 1))) := fun _ => hc (j - 1) (by omega)
            clear hc
            rw [ea] at c00 ⊢
            cases t0 : inB (y.T j) (-50000) 150000 with
            | false =>
              have HP := Lib.hid (tempB_bad t0)
              have T0 := Lib.hid t0; clear t0
              go_wp2_with fail
              refine (within_b (y.T j) (-50000) 150000 _ T0.out).mono ?_
              rintro e w1 ⟨rfl, rfl⟩
              go_wp2_with fail
              go_ret
              exact ⟨by rw [yst_temp hlt HP.out]; rfl, HBc.out⟩
            | true =>
              by_cases z : j = 0
              · subst z
                have HP := Lib.hid (tempB_zero t0)
                have T0 := Lib.hid t0; clear t0
                clear m1
                rw [Nat.add_zero] at m0
                go_wp2_with fail
                refine (within_b (y.T 0) (-50000) 150000 _ T0.out).mono ?_
                rintro e w1 ⟨rfl, rfl⟩
                go_wp2_with fail
                go_roundw
                case rel => exact ⟨0 + 1, by omega, by go_num, Lib.hid (all_succ (P := fun i => tempB y.T i = true) OK.out HP.out), by simp⟩
                case measure => simp [intOf]; omega
              · have m1 := m1 (by omega)
                obtain ⟨i, rfl⟩ : ∃ i, j = i + 1 := ⟨j - 1, by omega⟩
                simp only [Nat.add_sub_cancel] at m1
                by_cases up : y.T i < y.T (i + 1)
                · have HP := Lib.hid (tempB_up t0 (by simpa using up))
                  have T0 := Lib.hid t0; clear t0
                  go_wp2_with fail
                  refine (within_b (y.T (i + 1)) (-50000) 150000 _ T0.out).mono ?_
                  rintro e w1 ⟨rfl, rfl⟩
                  go_wp2_with fail
                  go_roundw
                  case rel => exact ⟨i + 1 + 1, by omega, by go_num, Lib.hid (all_succ (P := fun i => tempB y.T i = true) OK.out HP.out), by simp⟩
                  case measure => simp [intOf]; omega
                · have HP := Lib.hid (tempB_down (T := y.T) (j := i + 1) (by omega) (by simpa using up))
                  have T0 := Lib.hid t0; clear t0
                  go_wp2_with fail
                  refine (within_b (y.T (i + 1)) (-50000) 150000 _ T0.out).mono ?_
                  rintro e w1 ⟨rfl, rfl⟩
                  go_wp2_with fail
                  go_ret
                  exact ⟨by rw [yst_temp hlt HP.out]; rfl, HBc.out⟩
        · have HA := Lib.hid (show allB y.nT (tempB y.T) = true from allB_t.2 (fun i hi => OK.out i (by omega))); clear OK
          have HC := HR1.out _ (Below.refl _ _)
          clear HR1
          cases u0 : allB y.nR (inSp 1000 y.A y.B) with
          | false =>
            rw [u0] at HC
            have YT := Lib.hid (yst_tail (b := false) YH.out HA.out (by rw [u0]; rfl)); clear u0
            have HC2 := Lib.hid HC; clear HC
            go_wp2_with fail
            refine (Calls.grown (HC2.out)).mono ?_
            rintro e w1 ⟨rfl, z1, rfl⟩
            go_wp2_with fail
            go_ret
            exact ⟨by rw [YT.out]; rfl, HBc.out.gw z1⟩
          | true =>
            rw [u0] at HC
            cases u1 : spanB y.sl y.sh 0 1000 with
            | false =>
              have YT := Lib.hid (yst_tail (b := false) YH.out HA.out (by unfold ystG; simp [u0, u1])); clear u0
              have HC2 := Lib.hid HC; clear HC
              have U1 := Lib.hid u1; clear u1
              go_wp2_with fail
              refine (Calls.grown (HC2.out)).mono ?_
              rintro e w1 ⟨rfl, z1, rfl⟩
              go_wp2_with fail
              refine (Calls.gw_of (sin_b y.sl y.sh 0 1000 _ U1.out)).mono ?_
              rintro e w1 ⟨rfl, z2, rfl⟩
              go_wp2_with fail
              go_ret
              exact ⟨by rw [YT.out]; rfl, HBc.out.gw z2⟩
            | true =>
              cases u2 : spanB y.gl y.gh 0 1000 with
              | false =>
                have YT := Lib.hid (yst_tail (b := false) YH.out HA.out (by unfold ystG; simp [u0, u1, u2])); clear u0
                have HC2 := Lib.hid HC; clear HC
                have U1 := Lib.hid u1; clear u1
                have U2 := Lib.hid u2; clear u2
                go_wp2_with fail
                refine (Calls.grown (HC2.out)).mono ?_
                rintro e w1 ⟨rfl, z1, rfl⟩
                go_wp2_with fail
                refine (Calls.gw_of (sin_b y.sl y.sh 0 1000 _ U1.out)).mono ?_
                rintro e w1 ⟨rfl, z2, rfl⟩
                go_wp2_with fail
                refine (Calls.gw_of (sin_b y.gl y.gh 0 1000 _ U2.out)).mono ?_
                rintro e w1 ⟨rfl, z3, rfl⟩
                go_wp2_with fail
                go_ret
                exact ⟨by rw [YT.out]; rfl, HBc.out.gw z3⟩
              | true =>
                cases u3 : spanB y.hl y.hh 0 10000 with
                | false =>
                  have YT := Lib.hid (yst_tail (b := false) YH.out HA.out (by unfold ystG; simp [u0, u1, u2, u3])); clear u0
                  have HC2 := Lib.hid HC; clear HC
                  have U1 := Lib.hid u1; clear u1
                  have U2 := Lib.hid u2; clear u2
                  have U3 := Lib.hid u3; clear u3
                  go_wp2_with fail
                  refine (Calls.grown (HC2.out)).mono ?_
                  rintro e w1 ⟨rfl, z1, rfl⟩
                  go_wp2_with fail
                  refine (Calls.gw_of (sin_b y.sl y.sh 0 1000 _ U1.out)).mono ?_
                  rintro e w1 ⟨rfl, z2, rfl⟩
                  go_wp2_with fail
                  refine (Calls.gw_of (sin_b y.gl y.gh 0 1000 _ U2.out)).mono ?_
                  rintro e w1 ⟨rfl, z3, rfl⟩
                  go_wp2_with fail
                  refine (Calls.gw_of (sin_b y.hl y.hh 0 10000 _ U3.out)).mono ?_
                  rintro e w1 ⟨rfl, z4, rfl⟩
                  go_wp2_with fail
                  go_ret
                  exact ⟨by rw [YT.out]; rfl, HBc.out.gw z4⟩
                | true =>
                  have YT := Lib.hid (yst_tail (b := true) YH.out HA.out (by unfold ystG; simp [u0, u1, u2, u3])); clear u0
                  have HC2 := Lib.hid HC; clear HC
                  have U1 := Lib.hid u1; clear u1
                  have U2 := Lib.hid u2; clear u2
                  have U3 := Lib.hid u3; clear u3
                  go_wp2_with fail
                  refine (Calls.grown (HC2.out)).mono ?_
                  rintro e w1 ⟨rfl, z1, rfl⟩
                  go_wp2_with fail
                  refine (Calls.gw_of (sin_b y.sl y.sh 0 1000 _ U1.out)).mono ?_
                  rintro e w1 ⟨rfl, z2, rfl⟩
                  go_wp2_with fail
                  refine (Calls.gw_of (sin_b y.gl y.gh 0 1000 _ U2.out)).mono ?_
                  rintro e w1 ⟨rfl, z3, rfl⟩
                  go_wp2_with fail
                  refine (Calls.gw_of (sin_b y.hl y.hh 0 10000 _ U3.out)).mono ?_
                  rintro e w1 ⟨rfl, z4, rfl⟩
                  go_wp2_with fail
                  go_ret
                  exact ⟨by rw [YT.out]; rfl, HBc.out.gw z4⟩
theorem isYeast_b {b : Bool} (y : Yst) (w : World) (hI : y.In w) (hf : y.Fits) (h : ystB y = b) : Calls Try.prog 29 #[y.val] w fun e w' => e = .returned (.bool b) ∧ Below w.heap.size w w' := h ▸ isYeast_any y w hI hf
end Go.Proofs.Ytfefmgadfklgmaa
