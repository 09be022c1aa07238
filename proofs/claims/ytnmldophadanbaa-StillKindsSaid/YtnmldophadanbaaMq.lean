/- StillKinds: the walk of the law where there is no error. No conditions beyond each theorem's own. -/
import Derived.Test.YtnmldophadanbaaMp
set_option linter.unusedVariables false
set_option linter.unusedSimpArgs false
set_option linter.unusedSectionVars false
set_option linter.constructorNameAsVariable false
namespace Go.Proofs.Ytnmldophadanbaa
open Go.RowKit

attribute [local go_sem] gw_cell gw_frozen gw_size

set_option maxRecDepth 100000 in
set_option maxHeartbeats 16000000 in
theorem kinds_ok (aL aV aM : Option Addr) (m k cL cV cM : Nat) (c : Crv) (p : Pot3) (M : Nat → Int) (fore cut en y : Int) (w : World) (h : longB c.n m k = false) (hL : IntsAt w aL c.n c.L) (hV : SpansAt w aV m c.A c.B) (hM : IntsAt w aM k M)
    (hx : cutsErr m c p M k fore cut en = 0) (hy : 0 ≤ y ∧ y ≤ 4294967295) :
    Calls Try.prog 11 #[.agg #[.slice aL c.n cL, .slice aV m cV], .agg #[.int .i64 p.v, .int .i64 p.lo, .int .i64 p.hi], .slice aM k cM, .int .i64 fore, .int .i64 cut, .int .i64 en, .int .u32 y] w (True1 w) := by
  obtain ⟨k1, k2, k3⟩ := longB_f h
  obtain ⟨_, h1, h2, h3, hr⟩ := cuts_valid hx
  obtain ⟨_, k64, rfl, g, hp, hgo, hok⟩ := run_zero hr
  have r1 := inB_t.1 h1
  have r2 := inB_t.1 h2
  clear h1 h2
  have BD := Lib.hid (fun i (hi : i < k) => show 0 ≤ (c.outAt p M i).lo ∧ (c.outAt p M i).lo ≤ (c.outAt p M i).hi ∧ (c.outAt p M i).hi ≤ (c.outAt p M i).d ∧ 1 ≤ (c.outAt p M i).d ∧ (c.outAt p M i).d ≤ 1073741824 by
    have n := next_ok g (hok i (by omega)) (show errD (c.potAt p M i) (M i) = 0 from hgo i hi)
    have d := inB_t.1 (errD_zero (show errD (c.potAt p M i) (M i) = 0 from hgo i hi)).1
    have e1 : (c.outAt p M i).lo = c.least (c.potAt p M i) (M i) := rfl
    have e2 : (c.outAt p M i).d = M i := rfl
    have e3 : (c.outAt p M i).hi = c.most (c.potAt p M i) (M i) := rfl
    rw [e1, e2, e3]; omega)
  clear hgo hok hp g
  have H := Lib.hid h; clear h
  obtain ⟨W2, hW2⟩ : ∃ W2, (w.alloc (.cells #[.slice aL c.n cL, .slice aV c.n cV] 25)).alloc (.cells #[.int .i64 p.v, .int .i64 p.lo, .int .i64 p.hi] 29) = W2 := ⟨_, rfl⟩
  have nb : NB w W2 aL aV c.n c.n cL cV p.v p.lo p.hi := by rw [← hW2]; exact nb_of w aL aV c.n c.n cL cV p.v p.lo p.hi _ _
  have HL := Lib.hid (hL.below nb.low); clear hL
  have HV := Lib.hid (hV.below nb.low); clear hV
  have HM := Lib.hid (hM.below nb.low); clear hM
  have HRN := Lib.hid hr; clear hr
  have HX := Lib.hid hx; clear hx
  have HW2 := Lib.hid hW2; clear hW2
  have NB2 := Lib.hid nb
  obtain ⟨c0, c1, p0, p1, p2, _, _⟩ := nb
  have s0 := NB2.out.s0
  have s1 := NB2.out.s1
  obtain ⟨D, HD⟩ : ∃ D, Hid (c.outAt p M = D) := ⟨_, Lib.hid rfl⟩
  rw [HD.out] at BD
  go_enter Try.func11, Try.ntmps11
  go_wp2_with fail
  rw [HW2.out]
  refine (long_b _ _ _ _ _ _ _ _ _ _ (by omega) (by omega) (by omega) H.out).mono ?_
  rintro e w1 ⟨rfl, x, rfl⟩
  go_wp2_with fail
  refine (cuts_ok aL aV aM c.n cL cV k cM c p M fore cut en (gw W2 x) (by omega) (by omega) (HL.out.below (below_gw W2 x)) (HV.out.below (below_gw W2 x)) (HM.out.below (below_gw W2 x)) HX.out).mono ?_
  rintro e u0 ⟨vk, rfl, hownk, hbk⟩
  rw [HD.out] at hownk
  obtain ⟨ak, capk, rfl, hK⟩ := ints_of_own hownk
  have B2u := Lib.hid (thru hbk (below_gw W2 x)); clear hownk hbk
  have NBu := NB2.out.below B2u.out
  have LOWu := Lib.hid NBu.low
  have HK := Lib.hid hK; clear hK
  clear c0 c1 p0 p1 p2 s0 s1
  have s0 := NBu.s0
  have s1 := NBu.s1
  obtain ⟨c0, c1, p0, p1, p2, _, _⟩ := NBu
  go_wp2_with fail
  refine (run_ok aL aV aM c.n cL cV k cM c p M u0 (by omega) (by omega) (HL.out.below B2u.out) (HV.out.below B2u.out) (HM.out.below B2u.out) HRN.out).mono ?_
  rintro e w3 ⟨vl, rfl, hown, hb3⟩
  obtain ⟨a1, cap1, rfl, hD⟩ := drawn_of_own hown
  rw [HD.out] at hD
  have Bu3 := Lib.hid hb3; clear hb3 hown
  obtain ⟨E, hE⟩ : ∃ E, E = c.potAt p M k := ⟨_, rfl⟩
  rw [← hE]
  clear hE
  obtain ⟨W4, hW4⟩ : ∃ W4, w3.alloc (.cells #[.int .i64 E.v, .int .i64 E.lo, .int .i64 E.hi] 29) = W4 := ⟨_, rfl⟩
  have B34 : Below w3.heap.size w3 W4 := by rw [← hW4]; exact below_alloc _ _
  have LOW4 := Lib.hid (thru B34 (thru Bu3.out LOWu.out))
  have HD4 := Lib.hid (hD.below B34)
  have HK4 := Lib.hid (HK.out.below (thru B34 Bu3.out))
  have HW4 := Lib.hid hW4
  clear hD hW4 B34 c0 c1 p0 p1 p2 s0 s1
  go_wp2_with fail
  rw [HW4.out]
  go_loopw [82, 20] (fun i s wr => ∃ j : Nat, j ≤ k ∧ i = .int .i64 j ∧ s = .int .i64 (sumD D j) ∧ ∃ x, wr = gw W4 x) (fun i _ _ => k - (intOf i).toNat)
  case atStart => exact ⟨0, by omega, rfl, rfl, ⟨#[], W4.drawn⟩, by simp [gw]⟩
  case round =>
    obtain ⟨j, hj, rfl, rfl, x, rfl⟩ := hrel
    have sb := sumD_bound (D := D) j (fun i hi => by have := BD.out i (by omega); omega)
    by_cases hlt : j < k
    · obtain ⟨b, off, rfl, lb, hD⟩ := HD4.out.get (by omega)
      obtain ⟨bk, offk, rfl, lbk, hK⟩ := ints_get HK4.out (by omega)
      obtain ⟨d0, d1, d2⟩ := hD j hlt
      have dk := hK j hlt
      obtain ⟨b1, b2, b3, b4, b5⟩ := BD.out j hlt
      clear hD hK
      have SU := Lib.hid (show sumD D (j + 1) = sumD D j + (D j).d from rfl)
      have ir := innerI_range (b := y) b2
      have m1 : 0 ≤ cut * (D j).d := Int.mul_nonneg (by omega) (by omega)
      have m2 : cut * (D j).d ≤ 10000 * 1073741824 := Int.mul_le_mul (by omega) (by omega) (by omega) (by omega)
      have m3 : 0 ≤ en * (D j).d := Int.mul_nonneg (by omega) (by omega)
      have m4 : en * (D j).d ≤ 10000 * 1073741824 := Int.mul_le_mul (by omega) (by omega) (by omega) (by omega)
      obtain ⟨ca, hca⟩ : ∃ ca, ca = cutAt D fore cut en j := ⟨_, rfl⟩
      rw [← hca] at dk
      by_cases hs : sumD D j + (D j).d ≤ fore
      · have e1 : ca = 1 := by rw [hca]; unfold cutAt; rw [if_pos (show sumD D (j + 1) ≤ fore from hs)]
        clear hca
        subst e1
        have q1 : decide (sumD D j + (D j).d ≤ fore) = true := by simpa using hs
        generalize (D j).d = d at *
        generalize (D j).lo = lo at *
        generalize (D j).hi = hi at *
        go_upto_region 14 with (fail)
        have bxN := box3_of (gw W4 x) d lo hi 41
        rw [gw_size] at bxN
        have B79 := thru (below_alloc (gw W4 x) (.cells #[.int .i64 d, .int .i64 lo, .int .i64 hi] 41)) (below_gw W4 x)
        have ek := below_cell B79 dk
        have lk := Nat.lt_of_lt_of_le lbk B79.size
        generalize (gw W4 x).alloc (.cells #[.int .i64 d, .int .i64 lo, .int .i64 hi] 41) = V at *
        generalize W4.heap.size + x.bs.size = BN at *
        obtain ⟨x0, x1, x2, xl⟩ := bxN
        have HB79 := Lib.hid B79
        clear d0 d1 d2 dk B79
        go_wp2_with fail
        go_roundw
        case rel =>
          obtain ⟨y9, hy9⟩ := gw_of_below HB79.out
          exact ⟨j + 1, by omega, by go_num, by rw [SU.out], y9, hy9⟩
        case measure => simp [intOf]; omega
      · have e1 : ca = kindD (D j) cut en := by rw [hca]; unfold cutAt; rw [if_neg (show ¬ sumD D (j + 1) ≤ fore from hs)]
        have q1 : decide (sumD D j + (D j).d ≤ fore) = false := by simpa using hs
        have CS := Lib.hid (kind_cases (X := innerI (D j).lo (D j).hi y * 10000) (cut := cut) (en := en) b4 (by omega) (by omega) b2 r2.2)
        rw [← e1] at CS
        clear hca e1
        generalize (D j).d = d at *
        generalize (D j).lo = lo at *
        generalize (D j).hi = hi at *
        rcases CS.out with ⟨⟨a1, a2, a3, a4, a5⟩, t1, t2, t3⟩ | ⟨⟨a1, a2, a3, a4, a5⟩, t1, t2⟩ | ⟨⟨a1, a2, a3, a4, a5⟩, t1, t3, t2⟩ | ⟨⟨a1, a2, a3, a4, a5⟩, t1, t3, t2⟩
        all_goals
          clear CS
          go_upto_region 14 with (fail)
          have bxN := box3_of (gw W4 x) d lo hi 41
          rw [gw_size] at bxN
          have B79 := thru (below_alloc (gw W4 x) (.cells #[.int .i64 d, .int .i64 lo, .int .i64 hi] 41)) (below_gw W4 x)
          have ek := below_cell B79 dk
          have lk := Nat.lt_of_lt_of_le lbk B79.size
          generalize (gw W4 x).alloc (.cells #[.int .i64 d, .int .i64 lo, .int .i64 hi] 41) = V at *
          generalize W4.heap.size + x.bs.size = BN at *
          obtain ⟨x0, x1, x2, xl⟩ := bxN
          have HB79 := Lib.hid B79
          clear d0 d1 d2 dk B79
          go_wp2_with fail
          refine (Calls.grown (inner_any _ _ _ _ (by omega) (by omega) (by omega) (by omega) (by omega))).mono ?_
          rintro e w1 ⟨rfl, z, rfl⟩
          go_wp2_with fail
          go_roundw
          case rel =>
            obtain ⟨y9, hy9⟩ := gw_of_below (thru (below_gw V z) HB79.out)
            exact ⟨j + 1, by omega, by go_num, by rw [SU.out], y9, hy9⟩
          case measure => simp [intOf]; omega
    · obtain rfl : k = j := by omega
      go_wp2_with fail
      refine (alive_any _).mono ?_
      rintro e w1 ⟨rfl, hb⟩
      have HB := Lib.hid (thru hb (LOW4.out.gw x)); clear hb
      go_wp2_with fail
      go_ret
      exact ⟨rfl, HB.out⟩

theorem kinds_any (aL aV aM : Option Addr) (n m k cL cV cM : Nat) (L A B M : Nat → Int) (v lo hi fore cut en y : Int) (w : World) (hn : n ≤ 9223372036854775807) (hm : m ≤ 9223372036854775807) (hk : k ≤ 9223372036854775807) (hL : IntsAt w aL n L) (hV : SpansAt w aV m A B) (hM : IntsAt w aM k M) (hy : 0 ≤ y ∧ y ≤ 4294967295) :
    Calls Try.prog 11 #[.agg #[.slice aL n cL, .slice aV m cV], .agg #[.int .i64 v, .int .i64 lo, .int .i64 hi], .slice aM k cM, .int .i64 fore, .int .i64 cut, .int .i64 en, .int .u32 y] w (True1 w) := by
  cases h : longB n m k with
  | true => exact kinds_long aL aV aM n m k cL cV cM v lo hi fore cut en y w hn hm hk h
  | false =>
    by_cases hx : cutsErr m ⟨n, L, A, B⟩ ⟨v, lo, hi⟩ M k fore cut en = 0
    · exact kinds_ok aL aV aM m k cL cV cM ⟨n, L, A, B⟩ ⟨v, lo, hi⟩ M fore cut en y w h hL hV hM hx hy
    · exact kinds_err aL aV aM m k cL cV cM ⟨n, L, A, B⟩ ⟨v, lo, hi⟩ M fore cut en y w h hL hV hM _ rfl hx
end Go.Proofs.Ytnmldophadanbaa
