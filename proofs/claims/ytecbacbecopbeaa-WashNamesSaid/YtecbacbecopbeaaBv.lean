/- The gas of a room, hour by hour (reference). Contract of Air. No conditions beyond each theorem's own. -/
import Derived.Test.YtecbacbecopbeaaBu
import Derived.Test.YtecbacbecopbeaaBr
set_option linter.unusedVariables false
set_option linter.unusedSimpArgs false
set_option linter.unusedSectionVars false
set_option linter.constructorNameAsVariable false
namespace Go.Proofs.Ytecbacbecopbeaa
open Go.RowKit

attribute [local go_sem] gw_cell gw_frozen gw_size

theorem infoSpV : (Try.prog.info? 23).map (fun i => (i.zero, i.size, i.bytes)) = some (some (.agg #[.int .i64 0, .int .i64 0]), 2, 16) := by kernel_rfl

set_option maxRecDepth 100000 in
set_option maxHeartbeats 8000000 in
theorem rAir_any (sl sh : Int) (aS : Option Addr) (k cS : Nat) (F G : Nat → Int) (v : Int) (w : World) (hS : SpansAt w aS k F G) (hk : k ≤ 9223372036854775807) :
    Calls Try.prog 41 #[.agg #[.int .i64 sl, .int .i64 sh], .slice aS k cS, .int .i64 v] w (AirR sl sh k F G v w) := by
  obtain ⟨W1, hW1⟩ : ∃ W1, w.alloc (.cells #[.int .i64 sl, .int .i64 sh] 23) = W1 := ⟨_, rfl⟩
  have hBc : Below w.heap.size w W1 := by rw [← hW1]; exact below_alloc _ _
  have zc0 : W1.heap[w.heap.size]? = some (.cells #[.int .i64 sl, .int .i64 sh] 23 (0, 0)) := by rw [← hW1]; exact alloc_at rfl
  have c00 : W1.cell? ⟨w.heap.size, 0, none⟩ = some (.int .i64 sl) := cell_of_block zc0 0 (by simp)
  have c01 : W1.cell? ⟨w.heap.size, 1, none⟩ = some (.int .i64 sh) := cell_of_block zc0 1 (by simp)
  have lc0 := (Array.getElem?_eq_some_iff.1 zc0).1
  have Zc0 := Lib.hid zc0
  clear zc0
  have HBc := Lib.hid hBc; clear hBc
  have HWc := Lib.hid hW1; clear hW1
  have HSw := Lib.hid hS
  have HS := Lib.hid (hS.below HBc.out); clear hS
  have sz := HBc.out.size
  by_cases h64 : 200 < k
  · have HE := Lib.hid (show airE sl sh k F G v = 3 by unfold airE; rw [if_pos h64])
    go_enter Try.func41, Try.ntmps41
    go_upto_region 1 with (fail)
    rw [HWc.out]
    go_wp2_with fail
    go_ret2
    exact air_bad HE.out (by decide) rfl (HBc.out)
  · cases h1 : spanB sl sh 0 1073741824 with
    | false =>
      have HE := Lib.hid (show airE sl sh k F G v = 1 by unfold airE airB; rw [if_neg h64, h1]; rfl)
      have T1 := Lib.hid h1; clear h1
      go_enter Try.func41, Try.ntmps41
      go_upto_region 1 with (fail)
      rw [HWc.out]
      go_wp2_with fail
      refine (Calls.grown (rwithin_b sl sh 0 1073741824 _ T1.out)).mono ?_
      rintro e w1 ⟨rfl, z1, rfl⟩
      go_wp2_with fail
      go_ret2
      exact air_bad HE.out (by decide) rfl (HBc.out.gw z1)
    | true =>
      have T1 := Lib.hid h1
      have EB := Lib.hid (fun i (hi : i < k) (h : inSp 1073741824 F G i = false) => show airE sl sh k F G v = 1 by unfold airE airB; rw [if_neg h64, h1, allB_f hi h]; rfl)
      have AB := Lib.hid (fun (h : ∀ i, i < k → inSp 1073741824 F G i = true) => show airB sl sh k F G = true by unfold airB; rw [h1, allB_t.2 h]; rfl)
      clear h1
      go_enter Try.func41, Try.ntmps41
      go_upto_region 1 with (fail)
      rw [HWc.out]
      go_wp2_with fail
      refine (Calls.grown (rwithin_b sl sh 0 1073741824 _ T1.out)).mono ?_
      rintro e w1 ⟨rfl, z1, rfl⟩
      go_wp2_with fail
      go_loopw [8] (fun t wr => ∃ i : Nat, i ≤ k ∧ t = .int .i64 i ∧ Hid (∀ t, t < i → inSp 1073741824 F G t = true) ∧ ∃ x, wr = gw W1 x) (fun t _ => k - (intOf t).toNat)
      case atStart => exact ⟨0, Nat.zero_le _, rfl, Lib.hid (fun t ht => absurd ht (Nat.not_lt_zero t)), z1, rfl⟩
      case round =>
        obtain ⟨i, hi, rfl, HP, x, rfl⟩ := hrel
        by_cases hlt : i < k
        · rcases HS.out with hz | ⟨b, off, rfl, lb, hc⟩
          · omega
          · obtain ⟨q0, q1⟩ := hc i hlt
            clear hc
            cases hp : inSp 1073741824 F G i with
            | false =>
              have T3 := Lib.hid (show spanB (F i) (G i) 0 1073741824 = false from hp)
              have HE := Lib.hid (EB.out i hlt hp); clear hp
              go_wp2_with fail
              refine (Calls.gw_of (rwithin_b (F i) (G i) 0 1073741824 _ T3.out)).mono ?_
              rintro e w1 ⟨rfl, z2, rfl⟩
              go_wp2_with fail
              go_ret2
              exact air_bad HE.out (by decide) rfl (HBc.out.gw z2)
            | true =>
              have T3 := Lib.hid (show spanB (F i) (G i) 0 1073741824 = true from hp)
              have HN := Lib.hid (all_succ (P := fun i => inSp 1073741824 F G i = true) HP.out hp); clear hp
              go_wp2_with fail
              refine (Calls.gw_of (rwithin_b (F i) (G i) 0 1073741824 _ T3.out)).mono ?_
              rintro e w1 ⟨rfl, z2, rfl⟩
              go_wp2_with fail
              go_roundw
              case rel => exact ⟨i + 1, by omega, by go_num, HN, z2, rfl⟩
              case measure => simp [intOf]; omega
        · obtain rfl : i = k := by omega
          have hb := AB.out HP.out
          cases h3 : inB v 0 1000 with
          | false =>
            have T3 := Lib.hid h3
            have HE := Lib.hid (show airE sl sh i F G v = 2 by unfold airE; rw [if_neg h64, if_pos hb, h3]; rfl)
            clear h3 hb
            go_wp2_with fail
            refine (rin_b v 0 1000 _ T3.out).mono ?_
            rintro e w1 ⟨rfl, rfl⟩
            go_wp2_with fail
            go_ret2
            exact air_bad HE.out (by decide) rfl (HBc.out.gw x)
          | true =>
            have T3 := Lib.hid h3
            have v0 := inB_t.1 h3
            have RG := Lib.hid (air_range hb h3)
            have h2 : allB i (inSp 1073741824 F G) = true := allB_t.2 HP.out
            have CB := Lib.hid (fun t ht => spanB_t.1 (allB_t.1 h2 t ht))
            have hm := okN_le (airOk sh v G) i
            have SL := Lib.hid (okN_lt (airOk sh v G) i)
            have SB_ := Lib.hid (okN_bad (airOk sh v G) i)
            have HE1 := Lib.hid (show okN (airOk sh v G) i < i → airE sl sh i F G v = 12 from fun h => by unfold airE; rw [if_neg h64, if_pos hb, if_pos h3, if_pos h])
            have HE0 := Lib.hid (show ¬ okN (airOk sh v G) i < i → airE sl sh i F G v = 0 from fun h => by unfold airE; rw [if_neg h64, if_pos hb, if_pos h3, if_neg h])
            clear h2 h3 hb EB AB HP
            obtain ⟨m, hmm⟩ : ∃ m, okN (airOk sh v G) i = m := ⟨_, rfl⟩
            rw [hmm] at RG hm SL SB_ HE1 HE0
            clear hmm
            obtain ⟨j0, hj, hy0, hy1, hy2⟩ := info_parts infoSpV
            have JI := Lib.hid hj; have Y0 := Lib.hid hy0; have Y1 := Lib.hid hy1; have Y2 := Lib.hid hy2
            clear hj hy0 hy1 hy2
            go_wp2_with fail
            refine (rin_b v 0 1000 _ T3.out).mono ?_
            rintro e w1 ⟨rfl, rfl⟩
            go_upto_region 12 with (fail)
            obtain ⟨W2, hW2⟩ : ∃ W2, gw W1 x = W2 := ⟨_, rfl⟩
            have hbW2 : Below W1.heap.size W1 W2 := by rw [← hW2]; exact below_gw W1 x
            have ZsW2 := Lib.hid ((hbW2.block _ (Array.getElem?_eq_some_iff.1 Zc0.out).1).trans Zc0.out)
            have HBW2 := Lib.hid (thru hbW2 HBc.out)
            have SBW2 := Lib.hid hbW2; clear hbW2
            have HWW2 := Lib.hid hW2; clear hW2
            rw [HWW2.out]
            clear c00 c01
            have zsW2 := SBW2.out.size
            have ls2 := (Array.getElem?_eq_some_iff.1 ZsW2.out).1
            go_wp2_with fail
            go_loopw [9, 10] (fun q t wr => ∃ j : Nat, j ≤ m ∧ t = .int .i64 j ∧ Hid (wr.ownsRow W2.heap.size 23 2 q j (airV sl sh v F G j)) ∧ Hid (wr.heap[w.heap.size]? = some (.cells #[.int .i64 (airL sl v F j), .int .i64 (airH sh v G j)] 23 (0, 0))) ∧ Hid (Below w.heap.size w wr) ∧ W2.heap.size ≤ wr.heap.size) (fun _ t _ => i - (intOf t).toNat)
            case atStart => exact ⟨0, Nat.zero_le _, rfl, Lib.hid (World.ownsRow_nil _ _ _ _), ZsW2, HBW2, Nat.le_refl _⟩
            case round =>
              obtain ⟨j, hj, rfl, HR, X0, HBr, zr⟩ := hrel
              by_cases hlt : j < i
              · obtain ⟨al, hal⟩ : ∃ al, airL sl v F j = al := ⟨_, rfl⟩
                obtain ⟨ah, hah⟩ : ∃ ah, airH sh v G j = ah := ⟨_, rfl⟩
                have rg := RG.out j hj
                have cb := CB.out j hlt
                have nl := Lib.hid (show airL sl v F (j + 1) = (airL sl v F j + F j) * (1000 - v) / 1000 from rfl)
                have nh := Lib.hid (show airH sh v G (j + 1) = upI ((airH sh v G j + G j) * (1000 - v)) 1000 from rfl)
                have VS := Lib.hid (spansV_succ j (fun i => airL sl v F (i + 1)) (fun i => airH sh v G (i + 1)))
                rcases (HSw.out.below HBr.out) with hz | ⟨b, off, rfl, lb, hc⟩
                · omega
                · obtain ⟨q0, q1⟩ := hc j hlt
                  clear hc
                  obtain ⟨f, hf⟩ : ∃ f, F j = f := ⟨_, rfl⟩
                  obtain ⟨g, hg⟩ : ∃ g, G j = g := ⟨_, rfl⟩
                  rw [hal, hah] at rg X0
                  rw [hf, hg] at cb
                  rw [hf] at q0
                  rw [hg] at q1
                  rw [hal, hf] at nl
                  rw [hah, hg] at nh
                  clear hal hah hf hg
                  have m0 : 0 ≤ (al + f) * (1000 - v) := Int.mul_nonneg (by omega) (by omega)
                  have m1 : (al + f) * (1000 - v) ≤ (ah + g) * (1000 - v) := Int.mul_le_mul_of_nonneg_right (by omega) (by omega)
                  have m2 : (ah + g) * (1000 - v) ≤ 2147483648 * 1000 := Int.mul_le_mul (by omega) (by omega) (by omega) (by omega)
                  have C1 := Lib.hid (fun w => rplus_any al ah f g w (by omega) (by omega) (by omega) (by omega))
                  have C2 := fun w => rpart_any (al + f) (ah + g) (1000 - v) (1000 - v) w m0 (by omega) (by omega) (by omega)
                  rw [← nl.out, ← nh.out] at C2
                  obtain ⟨xl, hxl⟩ : ∃ xl, airL sl v F (j + 1) = xl := ⟨_, rfl⟩
                  obtain ⟨xh, hxh⟩ : ∃ xh, airH sh v G (j + 1) = xh := ⟨_, rfl⟩
                  rw [hxl, hxh] at C2
                  have C2' := Lib.hid C2; clear C2 nl nh m0 m1 m2 rg cb
                  have sz2 := (Array.getElem?_eq_some_iff.1 X0.out).1
                  by_cases hjm : j < m
                  · have lim : xh ≤ 1073741824 := by rw [← hxh]; exact of_decide_eq_true (SL.out j hjm)
                    have HV := Lib.hid (show airV sl sh v F G (j + 1) = airV sl sh v F G j ++ [.int .i64 xl, .int .i64 xh] by rw [← hxl, ← hxh]; exact VS.out)
                    have EXL := Lib.hid hxl; have EXH := Lib.hid hxh; clear hxl hxh VS
                    have es0wr : wr.cell? ⟨w.heap.size, 0, none⟩ = some (.int .i64 al) := cell_of_block X0.out 0 (by simp)
                    have fs0wr := frozen_of_block X0.out 0
                    have es1wr : wr.cell? ⟨w.heap.size, 1, none⟩ = some (.int .i64 ah) := cell_of_block X0.out 1 (by simp)
                    have fs1wr := frozen_of_block X0.out 1
                    have lswr := (Array.getElem?_eq_some_iff.1 X0.out).1
                    go_wp2_with fail
                    refine wp_region_gw_tail 12 (by kernel_rfl) (by kernel_rfl) ?_
                    simp only [List.take_succ_cons, List.take_zero]
                    repeat (go_big_quiet_step (first | (go_at_call 78; with_reducible exact Calls.gw_of (C1.out _)) | (go_at_call 77; with_reducible exact Calls.gw_of (C2'.out _))))
                    refine wpQuiet_nil ?_
                    rintro _ ⟨z7, rfl⟩
                    simp only [List.drop_succ_cons, List.drop_zero]
                    go_upto_region 17 with (fail)
                    obtain ⟨W3, hW3⟩ : ∃ W3, (((gw wr z7)).setCell ⟨w.heap.size, 0, none⟩ (.int .i64 xl)).setCell ⟨w.heap.size, 1, none⟩ (.int .i64 xh) = W3 := ⟨_, rfl⟩
                    have hgW3 : wr.grownBy W3 (some (w.heap.size)) := by rw [← hW3]; exact grownBy_trans (grownBy_trans (grownBy_of_below (below_gw wr z7) _) (grownBy_set _ _ _ _)) (grownBy_set _ _ _ _)
                    have ZsW3 := Lib.hid (show W3.heap[w.heap.size]? = some (.cells #[.int .i64 xl, .int .i64 xh] 23 (0, 0)) by rw [← hW3]; exact block_set 1 _ (block_set 0 _ (((below_gw wr z7).block _ (Array.getElem?_eq_some_iff.1 X0.out).1).trans X0.out)))
                    have HBW3 := Lib.hid (HBr.out.grown hgW3 HBr.out.size (fun g hg => by cases hg; omega))
                    have zsW3 := hgW3.size
                    have GBW3 := Lib.hid hgW3; clear hgW3
                    have HWW3 := Lib.hid hW3; clear hW3
                    rw [HWW3.out]
                    clear es0wr es1wr fs0wr fs1wr q0 q1
                    have es0W3 : W3.cell? ⟨w.heap.size, 0, none⟩ = some (.int .i64 xl) := cell_of_block ZsW3.out 0 (by simp)
                    have es1W3 : W3.cell? ⟨w.heap.size, 1, none⟩ = some (.int .i64 xh) := cell_of_block ZsW3.out 1 (by simp)
                    have lsW3 := (Array.getElem?_eq_some_iff.1 ZsW3.out).1
                    have HRV := Lib.hid (HR.out.kept GBW3.out (.inr (Ne.symm (row_low HR.out (by omega)))))
                    have LV : W2.heap.size ≤ W3.heap.size := by omega
                    have BV := Lib.hid (below_alloc W3 (.cells #[.int .i64 xl, .int .i64 xh] 23))
                    go_wp2_with (at_builtin; refine wpList_append_own _ rfl _ _ 34 rfl W2.heap.size 23 j0 (.agg #[.int .i64 0, .int .i64 0]) 2 16 Try.underlying34 JI.out Y0.out Y1.out Y2.out rfl (by decide) _ j (airV sl sh v F G j) rfl (HRV.out.alloc _) ⟨W3.heap.size, 0, none⟩ 1 1 [.int .i64 xl, .int .i64 xh] rfl rfl (news_lit _ _ _) (by simp [Value.oneCell']) (by unfold maxLen; omega) (by omega) (by simp; omega) ?_; intro v9 w9 hown9 hgrow9 _)
                    rw [← HV.out] at hown9
                    have HO9 := Lib.hid hown9
                    have B9 := Lib.hid ((HBW3.out.alloc HBW3.out.size (.cells #[.int .i64 xl, .int .i64 xh] 23)).grown hgrow9 (by have := HBW3.out.size; simp; omega) (fun g hg => by have := (HRV.out.lt g hg).1; omega))
                    have k0 := (hgrow9.block w.heap.size (by simp; omega) (by have := row_low HRV.out (B := w.heap.size) (by omega); first | exact this | exact Ne.symm this)).trans ((BV.out.block _ (by omega)).trans ZsW3.out)
                    have z9 : W2.heap.size ≤ w9.heap.size := by have := hgrow9.size; simp at this; omega
                    rw [← EXL.out, ← EXH.out] at k0
                    have K0 := Lib.hid k0; clear k0 hown9 hgrow9
                    go_wp2_with fail
                    go_roundw
                    case rel => exact ⟨j + 1, by omega, by go_num, HO9, K0, B9, z9⟩
                    case measure => simp [intOf]; omega
                  · obtain rfl : j = m := by omega
                    have lim : 1073741824 < xh := by have := SB_.out hlt; unfold airOk at this; rw [hxh] at this; have := of_decide_eq_false this; omega
                    have HE := HE1.out hlt
                    have EXL := Lib.hid hxl; have EXH := Lib.hid hxh; clear hxl hxh VS
                    have es0wr : wr.cell? ⟨w.heap.size, 0, none⟩ = some (.int .i64 al) := cell_of_block X0.out 0 (by simp)
                    have fs0wr := frozen_of_block X0.out 0
                    have es1wr : wr.cell? ⟨w.heap.size, 1, none⟩ = some (.int .i64 ah) := cell_of_block X0.out 1 (by simp)
                    have fs1wr := frozen_of_block X0.out 1
                    have lswr := (Array.getElem?_eq_some_iff.1 X0.out).1
                    go_wp2_with fail
                    refine wp_region_gw_tail 12 (by kernel_rfl) (by kernel_rfl) ?_
                    simp only [List.take_succ_cons, List.take_zero]
                    repeat (go_big_quiet_step (first | (go_at_call 78; with_reducible exact Calls.gw_of (C1.out _)) | (go_at_call 77; with_reducible exact Calls.gw_of (C2'.out _))))
                    refine wpQuiet_nil ?_
                    rintro _ ⟨z7, rfl⟩
                    simp only [List.drop_succ_cons, List.drop_zero]
                    go_upto_region 17 with (fail)
                    obtain ⟨W3, hW3⟩ : ∃ W3, (((gw wr z7)).setCell ⟨w.heap.size, 0, none⟩ (.int .i64 xl)).setCell ⟨w.heap.size, 1, none⟩ (.int .i64 xh) = W3 := ⟨_, rfl⟩
                    have hgW3 : wr.grownBy W3 (some (w.heap.size)) := by rw [← hW3]; exact grownBy_trans (grownBy_trans (grownBy_of_below (below_gw wr z7) _) (grownBy_set _ _ _ _)) (grownBy_set _ _ _ _)
                    have ZsW3 := Lib.hid (show W3.heap[w.heap.size]? = some (.cells #[.int .i64 xl, .int .i64 xh] 23 (0, 0)) by rw [← hW3]; exact block_set 1 _ (block_set 0 _ (((below_gw wr z7).block _ (Array.getElem?_eq_some_iff.1 X0.out).1).trans X0.out)))
                    have HBW3 := Lib.hid (HBr.out.grown hgW3 HBr.out.size (fun g hg => by cases hg; omega))
                    have zsW3 := hgW3.size
                    have GBW3 := Lib.hid hgW3; clear hgW3
                    have HWW3 := Lib.hid hW3; clear hW3
                    rw [HWW3.out]
                    clear es0wr es1wr fs0wr fs1wr q0 q1
                    have es0W3 : W3.cell? ⟨w.heap.size, 0, none⟩ = some (.int .i64 xl) := cell_of_block ZsW3.out 0 (by simp)
                    have es1W3 : W3.cell? ⟨w.heap.size, 1, none⟩ = some (.int .i64 xh) := cell_of_block ZsW3.out 1 (by simp)
                    have lsW3 := (Array.getElem?_eq_some_iff.1 ZsW3.out).1
                    go_wp2_with fail
                    go_ret2
                    exact air_bad HE (by decide) rfl HBW3.out
              · obtain rfl : j = i := by omega
                obtain rfl : j = m := by omega
                have HE := HE0.out (by omega)
                have hN : airN sl sh j F G v = j := by unfold airN; rw [if_pos HE]
                have HEN := Lib.hid HE; have HNN := Lib.hid hN; clear HE hN
                go_wp2_with fail
                go_ret2
                exact ⟨_, by rw [HEN.out]; rfl, by rw [HNN.out]; exact HR.out.base (by omega), HBr.out⟩
end Go.Proofs.Ytecbacbecopbeaa
