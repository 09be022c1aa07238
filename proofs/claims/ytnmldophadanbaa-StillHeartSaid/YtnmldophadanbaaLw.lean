/- StillHeart: the walk of the law: Heart tells one. No conditions beyond each theorem's own. -/
import Derived.Test.YtnmldophadanbaaLu
set_option linter.unusedVariables false
set_option linter.unusedSimpArgs false
set_option linter.unusedSectionVars false
set_option linter.constructorNameAsVariable false
namespace Go.Proofs.Ytnmldophadanbaa
open Go.RowKit

attribute [local go_sem] gw_cell gw_frozen gw_size

set_option maxRecDepth 100000 in
set_option maxHeartbeats 16000000 in
theorem heartL_ok1 (aL aV aM aY : Option Addr) (m k cL cV cM ny cY : Nat) (c : Crv) (p : Pot3) (M Y : Nat → Int) (f t : Int) (w : World) (h : longB c.n m k = false) (h0 : 0 < ny) (hny : ny ≤ 9223372036854775807) (hL : IntsAt w aL c.n c.L) (hV : SpansAt w aV m c.A c.B) (hM : IntsAt w aM k M) (hY : NumsAt .u32 w aY ny Y) (hrY : ∀ i, i < ny → 0 ≤ Y i ∧ Y i ≤ 4294967295)
    (hx : heartErr m c p M k f t = 0) (hneg : 0 ≤ heartB (c.outAt p M) f.toNat t (k - f.toNat)) :
    Calls Try.prog 9 #[.agg #[.slice aL c.n cL, .slice aV m cV], .agg #[.int .i64 p.v, .int .i64 p.lo, .int .i64 p.hi], .slice aM k cM, .int .i64 f, .int .i64 t, .slice aY ny cY] w (True1 w) := by
  obtain ⟨k1, k2, k3⟩ := longB_f h
  have n2 : ((ny : Int) == 0) = false := by simp; omega
  obtain ⟨_, h1, h2, hr⟩ := heart_valid hx
  obtain ⟨_, k64, rfl, g, hp, hgo, hok⟩ := run_zero hr
  have r1 := inB_t.1 h1
  have r2 := inB_t.1 h2
  clear h1 h2
  obtain ⟨fn, rfl⟩ : ∃ fn : Nat, f = fn := ⟨f.toNat, by omega⟩
  rw [Int.toNat_natCast] at hneg
  have BD := Lib.hid (fun i (hi : i < k) => show 0 ≤ (c.outAt p M i).lo ∧ (c.outAt p M i).lo ≤ 1073741824 ∧ 0 ≤ (c.outAt p M i).d ∧ (c.outAt p M i).d ≤ 1073741824 ∧ (c.outAt p M i).lo ≤ (c.outAt p M i).hi ∧ (c.outAt p M i).hi ≤ 1073741824 by
    have n := next_ok g (hok i (by omega)) (show errD (c.potAt p M i) (M i) = 0 from hgo i hi)
    have d := inB_t.1 (errD_zero (show errD (c.potAt p M i) (M i) = 0 from hgo i hi)).1
    have e1 : (c.outAt p M i).lo = c.least (c.potAt p M i) (M i) := rfl
    have e2 : (c.outAt p M i).d = M i := rfl
    have e3 : (c.outAt p M i).hi = c.most (c.potAt p M i) (M i) := rfl
    rw [e1, e2, e3]; omega)
  have SP := Lib.hid (heartB_spec (c.outAt p M) fn t (k - fn))
  clear hgo hok hp g
  have H := Lib.hid h; clear h
  have HRY := Lib.hid hrY; clear hrY
  obtain ⟨yb, yo, rfl, _, _⟩ := nums_get hY h0
  obtain ⟨W2, hW2⟩ : ∃ W2, (w.alloc (.cells #[.slice aL c.n cL, .slice aV c.n cV] 25)).alloc (.cells #[.int .i64 p.v, .int .i64 p.lo, .int .i64 p.hi] 29) = W2 := ⟨_, rfl⟩
  have nb : NB w W2 aL aV c.n c.n cL cV p.v p.lo p.hi := by rw [← hW2]; exact nb_of w aL aV c.n c.n cL cV p.v p.lo p.hi _ _
  have HL := Lib.hid (hL.below nb.low); clear hL
  have HV := Lib.hid (hV.below nb.low); clear hV
  have HM := Lib.hid (hM.below nb.low); clear hM
  have HYY := Lib.hid (hY.below nb.low); clear hY
  have HHE := Lib.hid (fun y => heart_ok aL aV aM c.n cL cV k cM c p M fn t (gw W2 y) (by omega) (by omega) (HL.out.below (below_gw W2 y)) (HV.out.below (below_gw W2 y)) (HM.out.below (below_gw W2 y)) hx)
  have HRN := Lib.hid hr; clear hr hx
  have HW2 := Lib.hid hW2; clear hW2
  have NB2 := Lib.hid nb
  obtain ⟨c0, c1, p0, p1, p2, _, _⟩ := nb
  have s0 := NB2.out.s0
  have s1 := NB2.out.s1
  obtain ⟨D, HD⟩ : ∃ D, Hid (c.outAt p M = D) := ⟨_, Lib.hid rfl⟩
  rw [HD.out] at BD SP hneg
  obtain ⟨bb, hbb⟩ : ∃ bb, heartB D fn t (k - fn) = bb := ⟨_, rfl⟩
  rw [hbb] at SP hneg
  have HBB := Lib.hid hbb; clear hbb
  go_enter Try.func9, Try.ntmps9
  go_wp2_with fail
  rw [HW2.out]
  refine (long_b _ _ _ _ _ _ _ _ _ _ (by omega) (by omega) (by omega) H.out).mono ?_
  rintro e w1 ⟨rfl, y, rfl⟩
  go_wp2_with fail
  refine (HHE.out y).mono ?_
  clear HHE
  rintro e u0 ⟨he, hb0⟩
  rw [Int.toNat_natCast, HD.out, HBB.out] at he
  unfold HeartEnd at he
  rw [if_neg (by omega)] at he
  subst he
  have B2u := Lib.hid (thru hb0 (below_gw W2 y)); clear hb0
  have NBu := NB2.out.below B2u.out
  have LOWu := Lib.hid NBu.low
  clear c0 c1 p0 p1 p2 s0 s1
  have s0 := NBu.s0
  have s1 := NBu.s1
  obtain ⟨c0, c1, p0, p1, p2, _, _⟩ := NBu
  have bk : bb < k ∧ (fn : Int) ≤ bb := by
    rcases SP.out.1 with h | ⟨j', h1, h2, _⟩
    · omega
    · omega
  go_wp2_with fail
  refine (run_ok aL aV aM c.n cL cV k cM c p M u0 (by omega) (by omega) (HL.out.below B2u.out) (HV.out.below B2u.out) (HM.out.below B2u.out) HRN.out).mono ?_
  rintro e w3 ⟨vl, rfl, hown, hb3⟩
  obtain ⟨a1, cap1, rfl, hDr⟩ := drawn_of_own hown
  have B23 := Lib.hid (thru hb3 B2u.out); clear hown
  have LOW3 := Lib.hid (thru hb3 LOWu.out); clear hb3
  rw [HD.out] at hDr
  obtain ⟨E, hE⟩ : ∃ E, E = c.potAt p M k := ⟨_, rfl⟩
  rw [← hE]
  clear hE
  obtain ⟨b1, off1, rfl, lb1, hD1⟩ := hDr.get (by omega)
  obtain ⟨W4, hW4⟩ : ∃ W4, w3.alloc (.cells #[.int .i64 E.v, .int .i64 E.lo, .int .i64 E.hi] 29) = W4 := ⟨_, rfl⟩
  have B34 : Below w3.heap.size w3 W4 := by rw [← hW4]; exact below_alloc _ _
  have LOW4 := Lib.hid (thru B34 LOW3.out)
  have lb4 : b1 < W4.heap.size := Nat.lt_of_lt_of_le lb1 B34.size
  have HD4 := Lib.hid (fun i (hi : i < k) => show W4.cell? ⟨b1, off1 + i * 3, none⟩ = some (.int .i64 (D i).d) ∧ W4.cell? ⟨b1, off1 + i * 3 + 1, none⟩ = some (.int .i64 (D i).lo) ∧ W4.cell? ⟨b1, off1 + i * 3 + 2, none⟩ = some (.int .i64 (D i).hi) from
    ⟨(B34.cell (p := ⟨b1, _, none⟩) lb1).trans (hD1 i hi).1, (B34.cell (p := ⟨b1, _, none⟩) lb1).trans (hD1 i hi).2.1, (B34.cell (p := ⟨b1, _, none⟩) lb1).trans (hD1 i hi).2.2⟩)
  have HY4 := Lib.hid (HYY.out.below (thru B34 B23.out))
  have HW4 := Lib.hid hW4
  clear hD1 hDr hW4 B34 c0 c1 p0 p1 p2 s0 s1 lb1
  go_wp2_with fail
  rw [HW4.out]
  go_loopw [18, 19, 20, 21] (fun al ls am i wr => ∃ (j I : Nat) (a : Int), Hid (I = fn + j) ∧ I ≤ k ∧ fn ≤ I ∧ i = .int .i64 I ∧ al = .int .i64 a ∧ ls = .int .i64 (lsum D fn j) ∧ am = .int .i64 (asum D fn j) ∧ lsum D fn j ≤ a ∧ a ≤ j * 1073741824 ∧ ∃ x, wr = gw W4 x) (fun _ _ _ i _ => k - (intOf i).toNat)
  case atStart => exact ⟨0, fn, 0, Lib.hid rfl, by omega, Nat.le_refl _, rfl, rfl, rfl, rfl, by simp [lsum], by simp, ⟨#[], W4.drawn⟩, by simp [gw]⟩
  case round =>
    obtain ⟨j, I, al, HI, hI, hI2, rfl, rfl, rfl, rfl, al1, al2, x, rfl⟩ := hrel
    have jk : j ≤ 64 := by have := HI.out; omega
    have sb := sum_bound (D := D) (f := fn) j (fun i hi => by have b := BD.out (fn + i) (by have := HI.out; omega); exact ⟨b.1, b.2.1, b.2.2.1, b.2.2.2.1⟩)
    obtain ⟨sb1, sb2, sb3, sb4⟩ := sb
    by_cases hlt : I < k
    · obtain ⟨q, em, ml, HQ⟩ : ∃ q : Nat, ((I : Int) % (ny : Int)) = q ∧ q < ny ∧ Hid (I % ny = q) := ⟨I % ny, emod_nat I ny, Nat.mod_lt _ h0, Lib.hid rfl⟩
      have ym := HRY.out q ml
      obtain ⟨lby, dy⟩ := nums_cell HY4.out q ml
      obtain ⟨d0, d1, d2⟩ := HD4.out I hlt
      obtain ⟨b3, b4, b5, b6, b7, b8⟩ := BD.out I hlt
      have HLS := Lib.hid (show lsum D fn (j + 1) = lsum D fn j + (D I).lo by rw [HI.out]; rfl)
      have HAS := Lib.hid (show asum D fn (j + 1) = asum D fn j + (D I).d by rw [HI.out]; rfl)
      have HO := Lib.hid (show heartO D fn t (j + 1) = (lsum D fn j + (D I).lo) * 10000 - t * (asum D fn j + (D I).d) by rw [heartO_sums, HLS.out, HAS.out])
      generalize (D I).lo = lo at *
      generalize (D I).d = d at *
      generalize (D I).hi = hi at *
      have ir := innerI_range (b := Y q) b7
      have m1 : 0 ≤ t * (asum D fn j + d) := Int.mul_nonneg (by omega) (by omega)
      have m2 : t * (asum D fn j + d) ≤ 10000 * 100000000000 := Int.mul_le_mul r2.2 (by omega) (by omega) (by omega)
      rcases Int.lt_trichotomy (I : Int) bb with hc | hc | hc
      · have e1 : ((I : Int) == bb) = false := by simp; omega
        go_wp2_with fail
        refine wp_region_gw2 (by kernel_rfl) (by kernel_rfl) ?_
        repeat (go_big_quiet_step ((go_at_call 19; exact Calls.gw_of (inner_any _ _ _ _ (by omega) (by omega) (by omega) (by omega) (by omega)))))
        refine wpQuiet_nil ?_
        rintro _ ⟨z, rfl⟩
        go_wp2_with fail
        go_roundw
        case rel => first | exact ⟨j + 1, I + 1, al + innerI lo hi (Y q), Lib.hid (by rw [HI.out]; omega), by omega, by omega, by go_num, rfl, by rw [HLS.out], by rw [HAS.out], by rw [HLS.out]; omega, by rw [show ((j + 1 : Nat) : Int) * 1073741824 = j * 1073741824 + 1073741824 by rw [Int.natCast_add, Int.add_mul]; simp]; omega, z, rfl⟩ | exact ⟨_, _, _, _, _, ⟨j + 1, I + 1, Lib.hid (by rw [HI.out]; omega), by omega, by omega, by go_num, al + innerI lo hi (Y q), rfl, by rw [HLS.out], by rw [HAS.out], by rw [HLS.out]; omega, by rw [show ((j + 1 : Nat) : Int) * 1073741824 = j * 1073741824 + 1073741824 by rw [Int.natCast_add, Int.add_mul]; simp]; omega, z, rfl⟩, rfl, rfl, rfl, rfl, rfl⟩
        case measure => simp [intOf]; omega
      · have e1 : ((I : Int) == bb) = true := by simpa using hc
        have nn : ¬ bb < I := by omega
        have ge : t * (asum D fn j + d) ≤ (al + innerI lo hi (Y q)) * 10000 := by
          rcases SP.out.1 with h | ⟨j', h1, h2, h3⟩
          · omega
          · have : j' = j := by have := HI.out; omega
            rw [this, HO.out] at h3
            omega
        clear hc
        go_wp2_with fail
        refine wp_region_gw2 (by kernel_rfl) (by kernel_rfl) ?_
        repeat (go_big_quiet_step ((go_at_call 19; exact Calls.gw_of (inner_any _ _ _ _ (by omega) (by omega) (by omega) (by omega) (by omega)))))
        refine wpQuiet_nil ?_
        rintro _ ⟨z, rfl⟩
        go_wp2_with fail
        go_roundw
        case rel => first | exact ⟨j + 1, I + 1, al + innerI lo hi (Y q), Lib.hid (by rw [HI.out]; omega), by omega, by omega, by go_num, rfl, by rw [HLS.out], by rw [HAS.out], by rw [HLS.out]; omega, by rw [show ((j + 1 : Nat) : Int) * 1073741824 = j * 1073741824 + 1073741824 by rw [Int.natCast_add, Int.add_mul]; simp]; omega, z, rfl⟩ | exact ⟨_, _, _, _, _, ⟨j + 1, I + 1, Lib.hid (by rw [HI.out]; omega), by omega, by omega, by go_num, al + innerI lo hi (Y q), rfl, by rw [HLS.out], by rw [HAS.out], by rw [HLS.out]; omega, by rw [show ((j + 1 : Nat) : Int) * 1073741824 = j * 1073741824 + 1073741824 by rw [Int.natCast_add, Int.add_mul]; simp]; omega, z, rfl⟩, rfl, rfl, rfl, rfl, rfl⟩
        case measure => simp [intOf]; omega
      · have e1 : ((I : Int) == bb) = false := by simp; omega
        have lt : (lsum D fn j + lo) * 10000 < t * (asum D fn j + d) := by
          have := SP.out.2 j (by have := HI.out; omega) (by have := HI.out; omega)
          rw [HO.out] at this
          omega
        go_wp2_with fail
        refine wp_region_gw2 (by kernel_rfl) (by kernel_rfl) ?_
        repeat (go_big_quiet_step ((go_at_call 19; exact Calls.gw_of (inner_any _ _ _ _ (by omega) (by omega) (by omega) (by omega) (by omega)))))
        refine wpQuiet_nil ?_
        rintro _ ⟨z, rfl⟩
        go_wp2_with fail
        go_roundw
        case rel => first | exact ⟨j + 1, I + 1, al + innerI lo hi (Y q), Lib.hid (by rw [HI.out]; omega), by omega, by omega, by go_num, rfl, by rw [HLS.out], by rw [HAS.out], by rw [HLS.out]; omega, by rw [show ((j + 1 : Nat) : Int) * 1073741824 = j * 1073741824 + 1073741824 by rw [Int.natCast_add, Int.add_mul]; simp]; omega, z, rfl⟩ | exact ⟨_, _, _, _, _, ⟨j + 1, I + 1, Lib.hid (by rw [HI.out]; omega), by omega, by omega, by go_num, al + innerI lo hi (Y q), rfl, by rw [HLS.out], by rw [HAS.out], by rw [HLS.out]; omega, by rw [show ((j + 1 : Nat) : Int) * 1073741824 = j * 1073741824 + 1073741824 by rw [Int.natCast_add, Int.add_mul]; simp]; omega, z, rfl⟩, rfl, rfl, rfl, rfl, rfl⟩
        case measure => simp [intOf]; omega
    · obtain rfl : k = I := by omega
      go_wp2_with fail
      refine (alive_any _).mono ?_
      rintro e w1 ⟨rfl, hb⟩
      have HB := Lib.hid (thru hb (LOW4.out.gw x)); clear hb
      go_wp2_with fail
      go_ret
      exact ⟨rfl, HB.out⟩
end Go.Proofs.Ytnmldophadanbaa
