/- Contracts of the reference's Cuts and Heart without an error. No conditions beyond each theorem's own. -/
import Derived.Test.YtnmldophadanbaaNo
import Derived.Test.YtnmldophadanbaaMn
import Derived.Test.YtnmldophadanbaaGk
import Derived.Test.YtnmldophadanbaaKq
import Derived.Deep.DeepCutAuto
set_option linter.unusedVariables false
set_option linter.unusedSimpArgs false
set_option linter.unusedSectionVars false
set_option linter.constructorNameAsVariable false
namespace Go.Proofs.Ytnmldophadanbaa
open Go.RowKit

attribute [local go_sem] gw_cell gw_frozen gw_size

theorem infoSpan : (Try.prog.info? 27).map (fun i => (i.zero, i.size)) = some (some (.agg #[.int .i64 0, .int .i64 0]), 2) := by kernel_rfl
theorem kindD_eq (d : Dr3) (cut en : Int) : kindD d cut en = (if cut ≤ dHi d then 2 else 0) + (if dLo d < cut ∧ en ≤ dHi d then 4 else 0) + (if dLo d < en then 8 else 0) := by
  unfold kindD
  rw [kindI_eq]
  simp only [decide_eq_true_eq, Bool.and_eq_true]

set_option maxRecDepth 100000 in
set_option maxHeartbeats 4000000 in
theorem rcuts_ok (aL aV aM : Option Addr) (m cL cV k cM : Nat) (c : Crv) (p : Pot3) (M : Nat → Int) (fore cut en : Int) (w : World) (hn : c.n ≤ 40) (hm : m ≤ 40) (hL : IntsAt w aL c.n c.L) (hV : SpansAt w aV m c.A c.B) (hM : IntsAt w aM k M) (hx : cutsErr m c p M k fore cut en = 0) :
    Calls Try.prog 40 #[.agg #[.slice aL c.n cL, .slice aV m cV], .agg #[.int .i64 p.v, .int .i64 p.lo, .int .i64 p.hi], .slice aM k cM, .int .i64 fore, .int .i64 cut, .int .i64 en] w fun e w' => ∃ v, e = .returned (.tuple #[v, .int .i64 0]) ∧ w'.ownsRow w.heap.size 3 1 v k (cutsOut (c.outAt p M) fore cut en k) ∧ Below w.heap.size w w' := by
  obtain ⟨hz, h1, h2, h3, hr⟩ := cuts_valid hx
  obtain ⟨_, k64, rfl, g, hp, hgo, hok⟩ := run_zero hr
  have r1 := inB_t.1 h1
  have r2 := inB_t.1 h2
  have BD := Lib.hid (fun i (hi : i < k) => show 0 ≤ (c.outAt p M i).lo ∧ (c.outAt p M i).lo ≤ (c.outAt p M i).hi ∧ (c.outAt p M i).hi ≤ (c.outAt p M i).d ∧ 1 ≤ (c.outAt p M i).d ∧ (c.outAt p M i).d ≤ 1073741824 by
    have n := next_ok g (hok i (by omega)) (show errD (c.potAt p M i) (M i) = 0 from hgo i hi)
    have d := inB_t.1 (errD_zero (show errD (c.potAt p M i) (M i) = 0 from hgo i hi)).1
    have e1 : (c.outAt p M i).lo = c.least (c.potAt p M i) (M i) := rfl
    have e2 : (c.outAt p M i).d = M i := rfl
    have e3 : (c.outAt p M i).hi = c.most (c.potAt p M i) (M i) := rfl
    rw [e1, e2, e3]; omega)
  clear hgo hok hp g
  have HZ := Lib.hid hz; clear hz
  obtain ⟨W2, hW2⟩ : ∃ W2, (w.alloc (.cells #[.slice aL c.n cL, .slice aV c.n cV] 25)).alloc (.cells #[.int .i64 p.v, .int .i64 p.lo, .int .i64 p.hi] 29) = W2 := ⟨_, rfl⟩
  have nb : NB w W2 aL aV c.n c.n cL cV p.v p.lo p.hi := by rw [← hW2]; exact nb_of w aL aV c.n c.n cL cV p.v p.lo p.hi _ _
  have HL := Lib.hid (hL.below nb.low); clear hL
  have HV := Lib.hid (hV.below nb.low); clear hV
  have HM := Lib.hid (hM.below nb.low); clear hM
  have HW2 := Lib.hid hW2; clear hW2
  have NB2 := Lib.hid nb
  obtain ⟨c0, c1, p0, p1, p2, _, _⟩ := nb
  have s0 := NB2.out.s0
  have s1 := NB2.out.s1
  have EA := Lib.hid (show Calls Try.prog 65 #[.agg #[.slice aL c.n cL, .slice aV c.n cV], .agg #[.int .i64 p.v, .int .i64 p.lo, .int .i64 p.hi], .slice aM k cM] W2 fun e w' => e = .returned (.int .i64 0) ∧ ∃ x, w' = gw W2 x by
    rw [← HZ.out]; exact Calls.grown (rearly_any aL aV aM c.n c.n cL cV k cM c.L c.A c.B p.v p.lo p.hi W2 (by omega) (by omega) (by omega) HL.out HV.out))
  have H1 := Lib.hid h1; clear h1
  have H2 := Lib.hid h2; clear h2
  have HRN := Lib.hid hr; clear hr hx
  obtain ⟨D, HD⟩ : ∃ D, Hid (c.outAt p M = D) := ⟨_, Lib.hid rfl⟩
  have DM := Lib.hid (fun i => show (D i).d = M i by rw [← HD.out]; rfl)
  rw [HD.out] at BD
  rw [HD.out]
  go_enter Try.func40, Try.ntmps40
  go_wp2_with fail
  rw [HW2.out]
  refine EA.out.mono ?_
  clear EA
  rintro e w1 ⟨rfl, y, rfl⟩
  go_wp2_with fail
  refine (rin_b _ _ _ _ H1.out).mono ?_
  rintro e w1 ⟨rfl, rfl⟩
  go_wp2_with fail
  refine (rin_b _ _ _ _ H2.out).mono ?_
  rintro e w1 ⟨rfl, rfl⟩
  go_wp2_with fail
  refine (rrun_ok aL aV aM c.n cL cV k cM c p M (by omega) (gw W2 y) ⟨HL.out.below (below_gw W2 y), HV.out.below (below_gw W2 y)⟩ (HM.out.below (below_gw W2 y)) HRN.out).mono ?_
  rintro e w3 ⟨vl, rfl, hown, hb3⟩
  obtain ⟨a1, cap1, rfl, hD⟩ := drawn_of_own hown
  rw [HD.out] at hD
  have B23 := Lib.hid (thru hb3 (below_gw W2 y)); clear hb3 hown
  obtain ⟨E, hE⟩ : ∃ E, E = c.potAt p M k := ⟨_, rfl⟩
  rw [← hE]
  clear hE
  obtain ⟨W4, hW4⟩ : ∃ W4, w3.alloc (.cells #[.int .i64 E.v, .int .i64 E.lo, .int .i64 E.hi] 29) = W4 := ⟨_, rfl⟩
  have B34 : Below w3.heap.size w3 W4 := by rw [← hW4]; exact below_alloc _ _
  have LOW4 := Lib.hid (thru B34 (thru B23.out NB2.out.low))
  have HD4 := Lib.hid (hD.below B34)
  have HM4 := Lib.hid (HM.out.below (thru B34 B23.out))
  have HW4 := Lib.hid hW4
  clear hD hW4 B34 c0 c1 p0 p1 p2 s0 s1
  obtain ⟨i0, hi, hz0, hz1, hz2⟩ := info_parts infoI
  have HI := Lib.hid hi; clear hi
  have Z0 := Lib.hid hz0; clear hz0
  have Z1 := Lib.hid hz1; clear hz1
  have Z2 := Lib.hid hz2; clear hz2
  go_wp2_with fail
  rw [HW4.out]
  go_loopw [19, 17, 18] (fun i v s wr => CutsRel D fore cut en k W4 i v s wr) (fun i _ _ _ => k - (intOf i).toNat)
  case atStart => exact ⟨⟨0, by omega, rfl, rfl, World.ownsRow_nil _ _ _ _, Below.refl _ _⟩⟩
  case round =>
    obtain ⟨⟨j, hj, rfl, rfl, hrow, hlow⟩⟩ := hrel
    have HROW := Lib.hid hrow
    have HLOW := Lib.hid hlow
    have sb := sumD_bound (D := D) j (fun i hi => by have := BD.out i (by omega); omega)
    clear hrow hlow
    by_cases hlt : j < k
    · obtain ⟨b, off, rfl, lb, hD⟩ := (HD4.out.below HLOW.out).get (by omega)
      obtain ⟨bm, offm, rfl, lm, hMm⟩ := ints_get (HM4.out.below HLOW.out) (by omega)
      obtain ⟨d0, d1, d2⟩ := hD j hlt
      have dm := hMm j hlt
      obtain ⟨b1, b2, b3, b4, b5⟩ := BD.out j hlt
      rw [← DM.out j] at dm
      clear hD hMm
      have CU := Lib.hid (show cutAt D fore cut en j = if sumD D j + (D j).d ≤ fore then 1 else kindD (D j) cut en from rfl)
      have SU := Lib.hid (show sumD D (j + 1) = sumD D j + (D j).d from rfl)
      have CL := Lib.hid (show dLo (D j) = (D j).lo * 10000 / (D j).d from rfl)
      have CH := Lib.hid (show dHi (D j) = upI ((D j).hi * 10000) (D j).d from rfl)
      have KD := Lib.hid (kindD_eq (D j) cut en)
      generalize dLo (D j) = sl at *
      generalize dHi (D j) = sh at *
      generalize kindD (D j) cut en = kd at *
      have HDJ : ∃ x y z, (D j).d = x ∧ (D j).lo = y ∧ (D j).hi = z := ⟨_, _, _, rfl, rfl, rfl⟩
      obtain ⟨d, lo, hi, e1, e2, e3⟩ := HDJ
      rw [e1] at d0 b3 b4 b5 CU SU CL CH dm
      rw [e2] at d1 b1 b2 CL
      rw [e3] at d2 b2 b3 CH
      clear e1 e2 e3
      have SP := Lib.hid (fun V => show Calls Try.prog 66 #[.agg #[.int .i64 lo, .int .i64 hi], .int .i64 d] V fun e w' => e = .returned (.agg #[.int .i64 sl, .int .i64 sh]) ∧ Below V.heap.size V w' by
        rw [CL.out, CH.out]; exact rstrong_pos _ _ _ _ (by omega) (by omega) (by omega) (by omega) (by omega) (by omega))
      have j0 : (0 : Int) ≤ j := by omega
      have j1 : (j : Int) < k := by omega
      go_wp2_with fail
      refine wp_region_box1 [true, true, true, true, true, true, true, true, true, true, false, false] 10 11 #[.int .i64 0, .int .i64 0] #[.int .i64 sl, .int .i64 sh] (by kernel_rfl) rfl rfl rfl (by kernel_rfl) rfl (by kernel_rfl) infoSpan rfl rfl (by simp [Value.oneCell']) ?_
      apply Exists.intro
      refine ⟨fun S hS hx => ?_, ?_, ?_⟩
      · obtain ⟨x0, hx0⟩ := hx
        haveI : Nonempty (GrewS wr S) := ⟨⟨x0, hx0⟩⟩
        simp only [pickM]
        repeat (go_big_quiet_step ((go_at_call 66; exact Calls.gwS hS (SP.out _))))
        exact wpQuiet_nil rfl
      · rfl
      · intro B w5 hBw hblk hb5
        have gS0 : w5.cell? ⟨B, 0, none⟩ = some (.int .i64 sl) := cell_of_block hblk 0 (by simp)
        have gS1 : w5.cell? ⟨B, 1, none⟩ = some (.int .i64 sh) := cell_of_block hblk 1 (by simp)
        have LOWV := Lib.hid (thru hb5 HLOW.out)
        have ROWV := Lib.hid (own_below HROW.out hb5)
        have SZ := Lib.hid hb5.size
        clear hBw hblk hb5 d0 d1 d2 dm lb lm j1
        go_upto_if 78 with (fail)
        go_cut [21] (fun s21 wx => ∃ kk : Int, s21 = .int .i64 kk ∧ kk = (if cut ≤ sh then 2 else 0) ∧ w5 = wx)
        case first =>
          by_cases cc : cut ≤ sh
          all_goals
            skip
            go_wp2_with fail
            all_goals
              go_meet
              exact ⟨_, rfl, by simp [cc], rfl⟩
        case rest =>
          obtain ⟨k1, rfl, hk, rfl⟩ := hcut
          have Kk1 := Lib.hid hk
          have bk1 : 0 ≤ k1 ∧ k1 ≤ 14 := by split at hk <;> omega
          clear hk
          by_cases ca : sl < cut <;> by_cases cb : en ≤ sh
          all_goals
            obtain ⟨k2, hk⟩ : ∃ k2 : Int, k2 = k1 + (if sl < cut ∧ en ≤ sh then 4 else 0) := ⟨_, rfl⟩
            have Kk2 := Lib.hid hk
            simp only [ca, cb, and_self, and_true, and_false, if_true, if_false, Int.add_zero, false_and] at hk
            have bk2 : 0 ≤ k2 ∧ k2 ≤ 20 := by omega
            try rw [← hk]
            have HK2 := Lib.hid hk
            clear hk
            go_upto_if 96 with (fail)
            go_cut [21] (fun s21 wx => ∃ kk : Int, s21 = .int .i64 kk ∧ kk = k2 + (if sl < en then 8 else 0) ∧ w5 = wx)
            case first =>
              by_cases cc : sl < en
              all_goals
                skip
                go_wp2_with fail
                all_goals
                  go_meet
                  exact ⟨_, rfl, by have := HK2.out; split <;> omega, rfl⟩
            case rest =>
              obtain ⟨k3, rfl, hk, rfl⟩ := hcut
              have Kk3 := Lib.hid hk
              have bk3 : 0 ≤ k3 ∧ k3 ≤ 40 := by split at hk <;> omega
              clear hk
              have KK := Lib.hid (show kd = k3 by rw [KD.out, Kk3.out, Kk2.out, Kk1.out])
              by_cases hs : sumD D j + d ≤ fore
              · have CA := Lib.hid (show cutAt D fore cut en j = 1 by rw [CU.out, if_pos hs])
                go_wp2_with (at_builtin; refine wpList_append_own _ rfl _ _ 22 rfl W4.heap.size 3 i0 (.int .i64 0) 1 8 Try.underlying22 HI.out Z0.out Z1.out Z2.out rfl (by decide) _ j (cutsOut D fore cut en j) rfl (ROWV.out.alloc _) ⟨w5.heap.size, 0, none⟩ 1 1 [.int .i64 (1)] rfl rfl (cell_one_new _ _ _) (by simp [Value.oneCell']) (by unfold maxLen; omega) (by omega) (by have := SZ.out; have := HLOW.out.size; simp; omega) ?_; intro v' w' hown' hgrow _)
                have hrow' : w'.ownsRow W4.heap.size 3 1 v' (j + 1) (cutsOut D fore cut en (j + 1)) := by rw [cutsOut_succ, CA.out]; exact hown'
                have low' := (LOWV.out.alloc (by have := LOWV.out.size; omega) _).grown hgrow (by have := LOWV.out.size; simp; omega) (fun g hg => (ROWV.out.lt g hg).1)
                have HR' := Lib.hid hrow'
                have HL' := Lib.hid low'
                clear hrow' low' hown' hgrow
                go_wp2_with fail
                go_roundw
                case rel => exact ⟨⟨j + 1, by omega, by go_num, by rw [SU.out], HR'.out, HL'.out⟩⟩
                case measure => simp [intOf]; omega
              · have CA := Lib.hid (show cutAt D fore cut en j = k3 by rw [CU.out, if_neg hs, KK.out])
                go_wp2_with (at_builtin; refine wpList_append_own _ rfl _ _ 22 rfl W4.heap.size 3 i0 (.int .i64 0) 1 8 Try.underlying22 HI.out Z0.out Z1.out Z2.out rfl (by decide) _ j (cutsOut D fore cut en j) rfl (ROWV.out.alloc _) ⟨w5.heap.size, 0, none⟩ 1 1 [.int .i64 (k3)] rfl rfl (cell_one_new _ _ _) (by simp [Value.oneCell']) (by unfold maxLen; omega) (by omega) (by have := SZ.out; have := HLOW.out.size; simp; omega) ?_; intro v' w' hown' hgrow _)
                have hrow' : w'.ownsRow W4.heap.size 3 1 v' (j + 1) (cutsOut D fore cut en (j + 1)) := by rw [cutsOut_succ, CA.out]; exact hown'
                have low' := (LOWV.out.alloc (by have := LOWV.out.size; omega) _).grown hgrow (by have := LOWV.out.size; simp; omega) (fun g hg => (ROWV.out.lt g hg).1)
                have HR' := Lib.hid hrow'
                have HL' := Lib.hid low'
                clear hrow' low' hown' hgrow
                go_wp2_with fail
                go_roundw
                case rel => exact ⟨⟨j + 1, by omega, by go_num, by rw [SU.out], HR'.out, HL'.out⟩⟩
                case measure => simp [intOf]; omega
    · obtain rfl : k = j := by omega
      go_wp2_with fail
      go_ret2
      exact ⟨_, rfl, HROW.out.base LOW4.out.size, thru HLOW.out LOW4.out⟩

set_option maxRecDepth 100000 in
set_option maxHeartbeats 4000000 in
theorem rheart_ok (aL aV aM : Option Addr) (m cL cV k cM : Nat) (c : Crv) (p : Pot3) (M : Nat → Int) (f t : Int) (w : World) (hn : c.n ≤ 40) (hm : m ≤ 40) (hL : IntsAt w aL c.n c.L) (hV : SpansAt w aV m c.A c.B) (hM : IntsAt w aM k M) (hx : heartErr m c p M k f t = 0) :
    Calls Try.prog 41 #[.agg #[.slice aL c.n cL, .slice aV m cV], .agg #[.int .i64 p.v, .int .i64 p.lo, .int .i64 p.hi], .slice aM k cM, .int .i64 f, .int .i64 t] w fun e w' =>
      HeartEnd (heartB (c.outAt p M) f.toNat t (k - f.toNat)) e ∧ Below w.heap.size w w' := by
  obtain ⟨hz, h1, h2, hr⟩ := heart_valid hx
  obtain ⟨_, k64, rfl, g, hp, hgo, hok⟩ := run_zero hr
  have r1 := inB_t.1 h1
  have r2 := inB_t.1 h2
  obtain ⟨fn, rfl⟩ : ∃ fn : Nat, f = fn := ⟨f.toNat, by omega⟩
  rw [Int.toNat_natCast]
  have BD := Lib.hid (fun i (hi : i < k) => show 0 ≤ (c.outAt p M i).lo ∧ (c.outAt p M i).lo ≤ 1073741824 ∧ 0 ≤ (c.outAt p M i).d ∧ (c.outAt p M i).d ≤ 1073741824 by
    have n := next_ok g (hok i (by omega)) (show errD (c.potAt p M i) (M i) = 0 from hgo i hi)
    have d := inB_t.1 (errD_zero (show errD (c.potAt p M i) (M i) = 0 from hgo i hi)).1
    have e1 : (c.outAt p M i).lo = c.least (c.potAt p M i) (M i) := rfl
    have e2 : (c.outAt p M i).d = M i := rfl
    rw [e1, e2]; omega)
  clear hgo hok hp g
  have HZ := Lib.hid hz; clear hz
  obtain ⟨W2, hW2⟩ : ∃ W2, (w.alloc (.cells #[.slice aL c.n cL, .slice aV c.n cV] 25)).alloc (.cells #[.int .i64 p.v, .int .i64 p.lo, .int .i64 p.hi] 29) = W2 := ⟨_, rfl⟩
  have nb : NB w W2 aL aV c.n c.n cL cV p.v p.lo p.hi := by rw [← hW2]; exact nb_of w aL aV c.n c.n cL cV p.v p.lo p.hi _ _
  have HL := Lib.hid (hL.below nb.low); clear hL
  have HV := Lib.hid (hV.below nb.low); clear hV
  have HM := Lib.hid (hM.below nb.low); clear hM
  have HW2 := Lib.hid hW2; clear hW2
  have NB2 := Lib.hid nb
  obtain ⟨c0, c1, p0, p1, p2, _, _⟩ := nb
  have s0 := NB2.out.s0
  have s1 := NB2.out.s1
  have EA := Lib.hid (show Calls Try.prog 65 #[.agg #[.slice aL c.n cL, .slice aV c.n cV], .agg #[.int .i64 p.v, .int .i64 p.lo, .int .i64 p.hi], .slice aM k cM] W2 fun e w' => e = .returned (.int .i64 0) ∧ ∃ x, w' = gw W2 x by
    rw [← HZ.out]; exact Calls.grown (rearly_any aL aV aM c.n c.n cL cV k cM c.L c.A c.B p.v p.lo p.hi W2 (by omega) (by omega) (by omega) HL.out HV.out))
  have H1 := Lib.hid h1; clear h1
  have H2 := Lib.hid h2; clear h2
  have HRN := Lib.hid hr; clear hr hx
  obtain ⟨D, HD⟩ : ∃ D, Hid (c.outAt p M = D) := ⟨_, Lib.hid rfl⟩
  have DM := Lib.hid (fun i => show (D i).d = M i by rw [← HD.out]; rfl)
  rw [HD.out] at BD
  rw [HD.out]
  go_enter Try.func41, Try.ntmps41
  go_wp2_with fail
  rw [HW2.out]
  refine EA.out.mono ?_
  clear EA
  rintro e w1 ⟨rfl, y, rfl⟩
  go_wp2_with fail
  refine (rin_b _ _ _ _ H1.out).mono ?_
  rintro e w1 ⟨rfl, rfl⟩
  go_wp2_with fail
  refine (rin_b _ _ _ _ H2.out).mono ?_
  rintro e w1 ⟨rfl, rfl⟩
  go_wp2_with fail
  refine (rrun_ok aL aV aM c.n cL cV k cM c p M (by omega) (gw W2 y) ⟨HL.out.below (below_gw W2 y), HV.out.below (below_gw W2 y)⟩ (HM.out.below (below_gw W2 y)) HRN.out).mono ?_
  rintro e w3 ⟨vl, rfl, hown, hb3⟩
  obtain ⟨a1, cap1, rfl, hD⟩ := drawn_of_own hown
  rw [HD.out] at hD
  have B23 := Lib.hid (thru hb3 (below_gw W2 y)); clear hb3 hown
  obtain ⟨E, hE⟩ : ∃ E, E = c.potAt p M k := ⟨_, rfl⟩
  rw [← hE]
  clear hE
  obtain ⟨W4, hW4⟩ : ∃ W4, w3.alloc (.cells #[.int .i64 E.v, .int .i64 E.lo, .int .i64 E.hi] 29) = W4 := ⟨_, rfl⟩
  have B34 : Below w3.heap.size w3 W4 := by rw [← hW4]; exact below_alloc _ _
  have LOW4 := Lib.hid (thru B34 (thru B23.out NB2.out.low))
  have HD4 := Lib.hid (hD.below B34)
  have HM4 := Lib.hid (HM.out.below (thru B34 B23.out))
  have HW4 := Lib.hid hW4
  clear hD hW4 B34 c0 c1 p0 p1 p2 s0 s1
  obtain ⟨b1, off1, rfl, lb4, hD1⟩ := HD4.out.get (by omega)
  obtain ⟨bm, offm, rfl, lm4, hMm⟩ := ints_get HM4.out (by omega)
  have HDD := Lib.hid hD1
  have HMM := Lib.hid hMm
  clear hD1 hMm
  go_wp2_with fail
  rw [HW4.out]
  go_loopw [15, 16, 17, 18] (fun bs al am i wr => ∃ (j I : Nat), Hid (I = fn + j) ∧ I ≤ k ∧ fn ≤ I ∧ i = .int .i64 I ∧ bs = .int .i64 (heartB D fn t j) ∧ al = .int .i64 (lsum D fn j) ∧ am = .int .i64 (asum D fn j) ∧ W4 = wr) (fun _ _ _ i _ => k - (intOf i).toNat)
  case atStart => exact ⟨0, fn, Lib.hid rfl, by omega, Nat.le_refl _, rfl, rfl, rfl, rfl, rfl⟩
  case round =>
    obtain ⟨j, I, HI, hI, hI2, rfl, rfl, rfl, rfl, rfl⟩ := hrel
    have jk : j ≤ 64 := by have := HI.out; omega
    have sb := sum_bound (D := D) (f := fn) j (fun i hi => BD.out (fn + i) (by have := HI.out; omega))
    obtain ⟨sb1, sb2, sb3, sb4⟩ := sb
    by_cases hlt : I < k
    · obtain ⟨d0, d1, d2⟩ := HDD.out I hlt
      have dm := HMM.out I hlt
      rw [← DM.out I] at dm
      obtain ⟨q1, q2, q3, q4⟩ := BD.out I hlt
      have HLS := Lib.hid (show lsum D fn (j + 1) = lsum D fn j + (D I).lo by rw [HI.out]; rfl)
      have HAS := Lib.hid (show asum D fn (j + 1) = asum D fn j + (D I).d by rw [HI.out]; rfl)
      have HO := Lib.hid (show heartO D fn t (j + 1) = (lsum D fn j + (D I).lo) * 10000 - t * (asum D fn j + (D I).d) by rw [heartO_sums, HLS.out, HAS.out])
      have HBt := Lib.hid (show 0 ≤ heartO D fn t (j + 1) → heartB D fn t (j + 1) = I from fun h => by unfold heartB; rw [if_pos h, HI.out]; simp)
      have HBf := Lib.hid (show ¬ 0 ≤ heartO D fn t (j + 1) → heartB D fn t (j + 1) = heartB D fn t j from fun h => by conv => lhs; unfold heartB; rw [if_neg h])
      generalize (D I).lo = lo at *
      generalize (D I).d = d at *
      generalize (D I).hi = hi at *
      have m1 : 0 ≤ t * (asum D fn j + d) := Int.mul_nonneg (by omega) (by omega)
      have m2 : t * (asum D fn j + d) ≤ 10000 * 100000000000 := Int.mul_le_mul r2.2 (by omega) (by omega) (by omega)
      by_cases ge : t * (asum D fn j + d) ≤ (lsum D fn j + lo) * 10000
      · go_wp2_with fail
        go_roundw
        case rel => exact ⟨j + 1, I + 1, Lib.hid (by rw [HI.out]; omega), by omega, by omega, by go_num, by rw [HBt.out (by rw [HO.out]; omega)], by rw [HLS.out], by rw [HAS.out], (by first | rfl | trivial)⟩
        case measure => simp [intOf]; omega
      · go_wp2_with fail
        go_roundw
        case rel => exact ⟨j + 1, I + 1, Lib.hid (by rw [HI.out]; omega), by omega, by omega, by go_num, by rw [HBf.out (by rw [HO.out]; omega)], by rw [HLS.out], by rw [HAS.out], (by first | rfl | trivial)⟩
        case measure => simp [intOf]; omega
    · obtain rfl : k = I := by omega
      have hjk : j = k - fn := by have := HI.out; omega
      obtain ⟨bb, hbb⟩ : ∃ bb, heartB D fn t j = bb := ⟨_, rfl⟩
      rw [hbb]
      have HBB := Lib.hid (show heartB D fn t (k - fn) = bb by rw [← hjk]; exact hbb); clear hbb hjk
      by_cases neg : bb < 0
      · go_wp2_with fail
        go_ret2
        exact ⟨by unfold HeartEnd; rw [HBB.out, if_pos neg]; rfl, LOW4.out⟩
      · go_wp2_with fail
        go_ret2
        exact ⟨by unfold HeartEnd; rw [HBB.out, if_neg (by omega)]; rfl, LOW4.out⟩
end Go.Proofs.Ytnmldophadanbaa
