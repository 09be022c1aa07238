/- StillCuts: pairs of contracts; the walk of the law. No conditions beyond each theorem's own. -/
import Derived.Test.YtnmldophadanbaaNp
import Derived.Test.YtnmldophadanbaaMo
set_option linter.unusedVariables false
set_option linter.unusedSimpArgs false
set_option linter.unusedSectionVars false
set_option linter.constructorNameAsVariable false
namespace Go.Proofs.Ytnmldophadanbaa
open Go.RowKit

attribute [local go_sem] gw_cell gw_frozen gw_size

section
variable (aL aV aM : Option Addr) (m cL cV k cM : Nat) (c : Crv) (p : Pot3) (M : Nat → Int) (fore cut en fr t : Int) (hn : c.n ≤ 40) (hm : m ≤ 40) (hk : k ≤ 70)
include hn hm hk
theorem cuts_both : ∃ (K : Nat) (D : Nat → Int) (x : Int), K ≤ 70 ∧
    (∀ w, CurIn w aL aV c.n m c.L c.A c.B → IntsAt w aM k M → Calls Try.prog 35 #[.agg #[.slice aL c.n cL, .slice aV m cV], .agg #[.int .i64 p.v, .int .i64 p.lo, .int .i64 p.hi], .slice aM k cM, .int .i64 fore, .int .i64 cut, .int .i64 en] w fun e w' => ∃ a ca, e = .returned (.tuple #[.slice a K ca, .int .i64 x]) ∧ IntsAt w' a K D ∧ Below w.heap.size w w') ∧
    (∀ w, CurIn w aL aV c.n m c.L c.A c.B → IntsAt w aM k M → Calls Try.prog 40 #[.agg #[.slice aL c.n cL, .slice aV m cV], .agg #[.int .i64 p.v, .int .i64 p.lo, .int .i64 p.hi], .slice aM k cM, .int .i64 fore, .int .i64 cut, .int .i64 en] w fun e w' => ∃ a ca, e = .returned (.tuple #[.slice a K ca, .int .i64 x]) ∧ IntsAt w' a K D ∧ Below w.heap.size w w') := by
  by_cases h : cutsErr m c p M k fore cut en = 0
  · refine ⟨k, fun j => cutAt (c.outAt p M) fore cut en j, 0, hk, fun w hc hM => ?_, fun w hc hM => ?_⟩
    · have hm' : m = c.n := (run_zero (cuts_valid h).2.2.2.2).2.2.1
      subst hm'
      refine (cuts_ok aL aV aM c.n cL cV k cM c p M fore cut en w hn hn hc.ls hc.vs hM h).mono ?_
      rintro e w' ⟨v, h1, h2, h3⟩
      obtain ⟨a, ca, rfl, h4⟩ := ints_of_own h2
      exact ⟨a, ca, h1, h4, h3⟩
    · refine (rcuts_ok aL aV aM m cL cV k cM c p M fore cut en w hn hm hc.ls hc.vs hM h).mono ?_
      rintro e w' ⟨v, h1, h2, h3⟩
      obtain ⟨a, ca, rfl, h4⟩ := ints_of_own h2
      exact ⟨a, ca, h1, h4, h3⟩
  · refine ⟨0, fun _ => 0, cutsErr m c p M k fore cut en, by omega, fun w hc hM => (cuts_err aL aV aM m cL cV k cM c p M fore cut en w hn hm hk hc.ls hc.vs hM _ rfl h).mono ?_, fun w hc hM => (rcuts_err aL aV aM m cL cV k cM c p M fore cut en w hn hm hk hc.ls hc.vs hM _ rfl h).mono ?_⟩
    · rintro e w' ⟨h1, h2⟩
      exact ⟨none, 0, h1, .inl rfl, h2⟩
    · rintro e w' ⟨h1, h2⟩
      exact ⟨none, 0, h1, .inl rfl, h2⟩
theorem heart_both : ∃ (b x : Int),
    (∀ w, CurIn w aL aV c.n m c.L c.A c.B → IntsAt w aM k M → Calls Try.prog 33 #[.agg #[.slice aL c.n cL, .slice aV m cV], .agg #[.int .i64 p.v, .int .i64 p.lo, .int .i64 p.hi], .slice aM k cM, .int .i64 fr, .int .i64 t] w fun e w' => e = .returned (.tuple #[.int .i64 b, .int .i64 x]) ∧ Below w.heap.size w w') ∧
    (∀ w, CurIn w aL aV c.n m c.L c.A c.B → IntsAt w aM k M → Calls Try.prog 41 #[.agg #[.slice aL c.n cL, .slice aV m cV], .agg #[.int .i64 p.v, .int .i64 p.lo, .int .i64 p.hi], .slice aM k cM, .int .i64 fr, .int .i64 t] w fun e w' => e = .returned (.tuple #[.int .i64 b, .int .i64 x]) ∧ Below w.heap.size w w') := by
  by_cases h : heartErr m c p M k fr t = 0
  · obtain ⟨B, hB⟩ : ∃ B, heartB (c.outAt p M) fr.toNat t (k - fr.toNat) = B := ⟨_, rfl⟩
    have q1 := fun w (hc : CurIn w aL aV c.n m c.L c.A c.B) (hM : IntsAt w aM k M) => heart_ok aL aV aM m cL cV k cM c p M fr t w hn hm hc.ls hc.vs hM h
    have q2 := fun w (hc : CurIn w aL aV c.n m c.L c.A c.B) (hM : IntsAt w aM k M) => rheart_ok aL aV aM m cL cV k cM c p M fr t w hn hm hc.ls hc.vs hM h
    rw [hB] at q1 q2
    unfold HeartEnd at q1 q2
    by_cases hneg : B < 0
    · refine ⟨0, 4, fun w hc hM => (q1 w hc hM).mono ?_, fun w hc hM => (q2 w hc hM).mono ?_⟩
      all_goals
        rintro e w' ⟨h1, h2⟩
        rw [if_pos hneg] at h1
        exact ⟨h1, h2⟩
    · refine ⟨B, 0, fun w hc hM => (q1 w hc hM).mono ?_, fun w hc hM => (q2 w hc hM).mono ?_⟩
      all_goals
        rintro e w' ⟨h1, h2⟩
        rw [if_neg hneg] at h1
        exact ⟨h1, h2⟩
  · exact ⟨0, heartErr m c p M k fr t, fun w hc hM => heart_err aL aV aM m cL cV k cM c p M fr t w hn hm hk hc.ls hc.vs hM _ rfl h, fun w hc hM => rheart_err aL aV aM m cL cV k cM c p M fr t w hn hm hk hc.ls hc.vs hM _ rfl h⟩
end

set_option maxRecDepth 100000 in
set_option maxHeartbeats 8000000 in
theorem scuts_any (aL aV aM : Option Addr) (n m k cL cV cM : Nat) (L A B M : Nat → Int) (v lo hi fore cut en fr t : Int) (w : World) (hn : n ≤ 9223372036854775807) (hm : m ≤ 9223372036854775807) (hk : k ≤ 9223372036854775807) (hL : IntsAt w aL n L) (hV : SpansAt w aV m A B) (hM : IntsAt w aM k M) :
    Calls Try.prog 14 #[.agg #[.slice aL n cL, .slice aV m cV], .agg #[.int .i64 v, .int .i64 lo, .int .i64 hi], .slice aM k cM, .int .i64 fore, .int .i64 cut, .int .i64 en, .int .i64 fr, .int .i64 t] w (True1 w) := by
  obtain ⟨W1, hW1⟩ : ∃ W1, (w.alloc (.cells #[.slice aL n cL, .slice aV m cV] 25)).alloc (.cells #[.int .i64 v, .int .i64 lo, .int .i64 hi] 29) = W1 := ⟨_, rfl⟩
  have nb : NB w W1 aL aV n m cL cV v lo hi := by rw [← hW1]; exact nb_of w aL aV n m cL cV v lo hi _ _
  have CU := Lib.hid (show CurIn W1 aL aV n m L A B from ⟨hL.below nb.low, hV.below nb.low⟩); clear hL hV
  have HM := Lib.hid (hM.below nb.low); clear hM
  have HW1 := Lib.hid hW1; clear hW1
  have NB1 := Lib.hid nb
  have s0 := nb.s0
  have s1 := nb.s1
  obtain ⟨c0, c1, p0, p1, p2, _, _⟩ := nb
  cases h : longB n m k with
  | true =>
    have H := Lib.hid h; clear h
    go_enter Try.func14, Try.ntmps14
    go_wp2_with fail
    rw [HW1.out]
    refine (long_b _ _ _ _ _ _ _ _ _ _ hn hm hk H.out).mono ?_
    rintro e w1 ⟨rfl, x, rfl⟩
    go_wp2_with fail
    refine (alive_any _).mono ?_
    rintro e w1 ⟨rfl, hb⟩
    have HB := Lib.hid (thru hb (NB1.out.low.gw x)); clear hb
    go_wp2_with fail
    go_ret
    exact ⟨rfl, HB.out⟩
  | false =>
    obtain ⟨k1, k2, k3⟩ := longB_f h
    have H := Lib.hid h; clear h
    obtain ⟨K, D, cx, hK, CP0, CR0⟩ := cuts_both aL aV aM m cL cV k cM ⟨n, L, A, B⟩ ⟨v, lo, hi⟩ M fore cut en (by show n ≤ _; omega) (by omega) (by omega)
    obtain ⟨hb, hx, HP0, HR0⟩ := heart_both aL aV aM m cL cV k cM ⟨n, L, A, B⟩ ⟨v, lo, hi⟩ M fr t (by show n ≤ _; omega) (by omega) (by omega)
    have CP := Lib.hid CP0; clear CP0
    have CR := Lib.hid CR0; clear CR0
    have HP := Lib.hid HP0; clear HP0
    have HR := Lib.hid HR0; clear HR0
    go_enter Try.func14, Try.ntmps14
    go_wp2_with fail
    rw [HW1.out]
    refine (long_b _ _ _ _ _ _ _ _ _ _ hn hm hk H.out).mono ?_
    rintro e w1 ⟨rfl, x, rfl⟩
    have BW0 := Lib.hid (below_gw W1 x)
    go_wp2_with fail
    refine (CP.out _ (CU.out.below BW0.out) (HM.out.below BW0.out)).mono ?_
    rintro e u1 ⟨a1, ca1, rfl, hI1, hb1⟩
    have BW1 := Lib.hid (thru hb1 BW0.out)
    have I1 := Lib.hid hI1; clear hI1
    have NN := NB1.out.below BW1.out
    clear c0 c1 p0 p1 p2 s0 s1 hb1
    have s0 := NN.s0
    have s1 := NN.s1
    obtain ⟨c0, c1, p0, p1, p2, _, _⟩ := NN
    go_wp2_with fail
    refine (CR.out _ (CU.out.below BW1.out) (HM.out.below BW1.out)).mono ?_
    rintro e u2 ⟨a2, ca2, rfl, hI2, hb2⟩
    have BW2 := Lib.hid (thru hb2 BW1.out)
    have I2 := Lib.hid hI2; clear hI2
    have J1 := Lib.hid (I1.out.below hb2)
    have NN := NB1.out.below BW2.out
    clear c0 c1 p0 p1 p2 s0 s1 hb2
    have s0 := NN.s0
    have s1 := NN.s1
    obtain ⟨c0, c1, p0, p1, p2, _, _⟩ := NN
    go_wp2_with fail
    refine (HP.out _ (CU.out.below BW2.out) (HM.out.below BW2.out)).mono ?_
    rintro e u3 ⟨rfl, hb3⟩
    have BW3 := Lib.hid (thru hb3 BW2.out)
    have J13 := Lib.hid (J1.out.below hb3)
    have J23 := Lib.hid (I2.out.below hb3)
    have NN := NB1.out.below BW3.out
    clear c0 c1 p0 p1 p2 s0 s1 hb3
    have s0 := NN.s0
    have s1 := NN.s1
    obtain ⟨c0, c1, p0, p1, p2, _, _⟩ := NN
    go_wp2_with fail
    refine (HR.out _ (CU.out.below BW3.out) (HM.out.below BW3.out)).mono ?_
    rintro e u4 ⟨rfl, hb4⟩
    have BW4 := Lib.hid (thru hb4 BW3.out)
    have J14 := Lib.hid (J13.out.below hb4)
    have J24 := Lib.hid (J23.out.below hb4)
    have NN := NB1.out.below BW4.out
    clear c0 c1 p0 p1 p2 s0 s1 hb4
    have s0 := NN.s0
    have s1 := NN.s1
    obtain ⟨c0, c1, p0, p1, p2, _, _⟩ := NN
    go_wp2_with fail
    refine (sameInts_t a1 a2 K ca1 ca2 _ u4 (by omega) J14.out J24.out).mono ?_
    rintro e u5 ⟨rfl, y, rfl⟩
    have BW5 := Lib.hid (thru (below_gw u4 y) BW4.out)
    go_wp2_with fail
    refine (alive_any _).mono ?_
    rintro e u6 ⟨rfl, hb6⟩
    have H6 := Lib.hid hb6
    clear hb6
    go_wp2_with fail
    have hb6 := H6.out
    go_ret
    exact ⟨rfl, thru hb6 (thru BW5.out NB1.out.low)⟩
end Go.Proofs.Ytnmldophadanbaa
