/- StillRuns: the walk of the law. No conditions beyond each theorem's own. -/
import Derived.Test.YtnmldophadanbaaNe
set_option linter.unusedVariables false
set_option linter.unusedSimpArgs false
set_option linter.unusedSectionVars false
set_option linter.constructorNameAsVariable false
namespace Go.Proofs.Ytnmldophadanbaa
open Go.RowKit

attribute [local go_sem] gw_cell gw_frozen gw_size

def Three (a b x : Int) (w : World) (e : Ending) (w' : World) : Prop := e = .returned (.tuple #[.int .i64 a, .int .i64 b, .int .i64 x]) ∧ Below w.heap.size w w'

theorem cyc_both (fl fh kl kh s l : Int) : ∃ a b x : Int, (∀ w, Calls Try.prog 21 #[.agg #[.int .i64 fl, .int .i64 fh], .agg #[.int .i64 kl, .int .i64 kh], .int .i64 s, .int .i64 l] w (Three a b x w)) ∧
    (∀ w, Calls Try.prog 37 #[.agg #[.int .i64 fl, .int .i64 fh], .agg #[.int .i64 kl, .int .i64 kh], .int .i64 s, .int .i64 l] w (Three a b x w)) := by
  by_cases hE : cycErr fl fh kl kh s l = 0
  · obtain ⟨i, hi⟩ := cyc_exists fh kh s l
    by_cases hl : l < cycF fh kh s i
    · refine ⟨cycF fh kh s i, i, 0, fun w => ?_, fun w => rcycle_over fl fh kl kh s l w hE i hi hl⟩
      have := cycle_ok fl fh kl kh s l w hE i hi.1 hi.2
      rwa [show cycRun fh kh s l i = i by unfold cycRun; rw [if_pos hl]] at this
    · refine ⟨cycF fh kh s i, -1, 0, fun w => ?_, fun w => rcycle_stay fl fh kl kh s l w hE i hi (by omega)⟩
      have := cycle_ok fl fh kl kh s l w hE i hi.1 hi.2
      rwa [show cycRun fh kh s l i = -1 by unfold cycRun; rw [if_neg hl]] at this
  · exact ⟨0, 0, _, fun w => cycle_err fl fh kl kh s l w _ rfl hE, fun w => rcycle_err fl fh kl kh s l w _ rfl hE⟩
theorem wear_both (tl th wl wh l : Int) : ∃ a b x : Int, (∀ w, Calls Try.prog 26 #[.agg #[.int .i64 tl, .int .i64 th], .agg #[.int .i64 wl, .int .i64 wh], .int .i64 l] w (Three a b x w)) ∧
    (∀ w, Calls Try.prog 38 #[.agg #[.int .i64 tl, .int .i64 th], .agg #[.int .i64 wl, .int .i64 wh], .int .i64 l] w (Three a b x w)) :=
  ⟨_, _, _, fun w => wear_any tl th wl wh l w _ rfl, fun w => rwear_any tl th wl wh l w _ rfl⟩
theorem plates_both (aL aV : Option Addr) (n m cL cV : Nat) (L A B : Nat → Int) (s t : Int) (hn : n ≤ 1000000000000) (hm : m ≤ 1000000000000) : ∃ a b x : Int,
    (∀ w, IntsAt w aL n L → SpansAt w aV m A B → Calls Try.prog 34 #[.agg #[.slice aL n cL, .slice aV m cV], .int .i64 s, .int .i64 t] w (Three a b x w)) ∧
    (∀ w, IntsAt w aL n L → SpansAt w aV m A B → Calls Try.prog 39 #[.agg #[.slice aL n cL, .slice aV m cV], .int .i64 s, .int .i64 t] w (Three a b x w)) := by
  by_cases hE : platesErr n m L A B s t = 0
  · have h1 : CountIs (seqI (fun x => vapHi L B n x) s) t (countI (seqI (fun x => vapHi L B n x) s) t) := ⟨rfl⟩
    have h2 : CountIs (seqI (fun x => vapLo L A n x) s) t (countI (seqI (fun x => vapLo L A n x) s) t) := ⟨rfl⟩
    generalize countI (seqI (fun x => vapHi L B n x) s) t = ch at h1
    generalize countI (seqI (fun x => vapLo L A n x) s) t = cl at h2
    by_cases hneg : ch < 0
    · refine ⟨0, 0, 12, fun w hL hV => (plates_ok aL aV n m cL cV L A B s t w hn hm hL hV hE ch cl h1 h2).mono fun e w' ⟨he, hb⟩ => ⟨?_, hb⟩, fun w hL hV => (rplates_ok aL aV n m cL cV L A B s t w hn hm hL hV hE ch cl h1 h2).mono fun e w' ⟨he, hb⟩ => ⟨?_, hb⟩⟩
      all_goals
        unfold PlatesEnd at he
        rw [if_pos hneg] at he
        exact he
    · refine ⟨ch, cl, 0, fun w hL hV => (plates_ok aL aV n m cL cV L A B s t w hn hm hL hV hE ch cl h1 h2).mono fun e w' ⟨he, hb⟩ => ⟨?_, hb⟩, fun w hL hV => (rplates_ok aL aV n m cL cV L A B s t w hn hm hL hV hE ch cl h1 h2).mono fun e w' ⟨he, hb⟩ => ⟨?_, hb⟩⟩
      all_goals
        unfold PlatesEnd at he
        rw [if_neg hneg] at he
        exact he
  · exact ⟨0, 0, _, fun w hL hV => plates_err aL aV n m cL cV L A B s t w hn hm hL hV _ rfl hE, fun w hL hV => rplates_err aL aV n m cL cV L A B s t w hn hm hL hV _ rfl hE⟩

/-- four spans and a curve were boxed -/
structure RB (w W : World) (fl fh kl kh tl th wl wh : Int) (aL aV : Option Addr) (n m cL cV : Nat) : Prop where
  f0 : W.cell? ⟨w.heap.size, 0, none⟩ = some (.int .i64 fl)
  f1 : W.cell? ⟨w.heap.size, 1, none⟩ = some (.int .i64 fh)
  k0 : W.cell? ⟨w.heap.size + 1, 0, none⟩ = some (.int .i64 kl)
  k1 : W.cell? ⟨w.heap.size + 1, 1, none⟩ = some (.int .i64 kh)
  t0 : W.cell? ⟨w.heap.size + 1 + 1, 0, none⟩ = some (.int .i64 tl)
  t1 : W.cell? ⟨w.heap.size + 1 + 1, 1, none⟩ = some (.int .i64 th)
  w0 : W.cell? ⟨w.heap.size + 1 + 1 + 1, 0, none⟩ = some (.int .i64 wl)
  w1 : W.cell? ⟨w.heap.size + 1 + 1 + 1, 1, none⟩ = some (.int .i64 wh)
  c0 : W.cell? ⟨w.heap.size + 1 + 1 + 1 + 1, 0, none⟩ = some (.slice aL n cL)
  c1 : W.cell? ⟨w.heap.size + 1 + 1 + 1 + 1, 1, none⟩ = some (.slice aV m cV)
  sz : w.heap.size + 5 ≤ W.heap.size
  low : Below w.heap.size w W
theorem rb_of (w : World) (fl fh kl kh tl th wl wh : Int) (aL aV : Option Addr) (n m cL cV : Nat) (t t' : TypeId) :
    RB w (((((w.alloc (.cells #[.int .i64 fl, .int .i64 fh] t)).alloc (.cells #[.int .i64 kl, .int .i64 kh] t)).alloc (.cells #[.int .i64 tl, .int .i64 th] t)).alloc (.cells #[.int .i64 wl, .int .i64 wh] t)).alloc (.cells #[.slice aL n cL, .slice aV m cV] t')) fl fh kl kh tl th wl wh aL aV n m cL cV := by
  obtain ⟨z0, z1, z2, z3, z4, z5⟩ := five_blocks w (.cells #[.int .i64 fl, .int .i64 fh] t) (.cells #[.int .i64 kl, .int .i64 kh] t) (.cells #[.int .i64 tl, .int .i64 th] t) (.cells #[.int .i64 wl, .int .i64 wh] t) (.cells #[.slice aL n cL, .slice aV m cV] t')
  exact ⟨cell_of_block z1 0 (by simp), cell_of_block z1 1 (by simp), cell_of_block z2 0 (by simp), cell_of_block z2 1 (by simp), cell_of_block z3 0 (by simp), cell_of_block z3 1 (by simp), cell_of_block z4 0 (by simp), cell_of_block z4 1 (by simp), cell_of_block z5 0 (by simp), cell_of_block z5 1 (by simp), by rw [z0]; omega,
    (((((Below.refl _ w).alloc (Nat.le_refl _) _).alloc (by simp) _).alloc (by simp; omega) _).alloc (by simp; omega) _).alloc (by simp; omega) _⟩

set_option maxRecDepth 100000 in
set_option maxHeartbeats 8000000 in
theorem runs_any (fl fh kl kh s l tl th wl wh le fr tt : Int) (aL aV : Option Addr) (n m cL cV : Nat) (L A B : Nat → Int) (w : World) (hn : n ≤ 9223372036854775807) (hm : m ≤ 9223372036854775807) (hL : IntsAt w aL n L) (hV : SpansAt w aV m A B) :
    Calls Try.prog 13 #[.agg #[.int .i64 fl, .int .i64 fh], .agg #[.int .i64 kl, .int .i64 kh], .int .i64 s, .int .i64 l, .agg #[.int .i64 tl, .int .i64 th], .agg #[.int .i64 wl, .int .i64 wh], .int .i64 le, .agg #[.slice aL n cL, .slice aV m cV], .int .i64 fr, .int .i64 tt] w (True1 w) := by
  obtain ⟨W2, hW2⟩ : ∃ W2, ((((w.alloc (.cells #[.int .i64 fl, .int .i64 fh] 27)).alloc (.cells #[.int .i64 kl, .int .i64 kh] 27)).alloc (.cells #[.int .i64 tl, .int .i64 th] 27)).alloc (.cells #[.int .i64 wl, .int .i64 wh] 27)).alloc (.cells #[.slice aL n cL, .slice aV m cV] 25) = W2 := ⟨_, rfl⟩
  have rb : RB w W2 fl fh kl kh tl th wl wh aL aV n m cL cV := by rw [← hW2]; exact rb_of w fl fh kl kh tl th wl wh aL aV n m cL cV _ _
  have HL := Lib.hid (hL.below rb.low); clear hL
  have HV := Lib.hid (hV.below rb.low); clear hV
  have HW2 := Lib.hid hW2; clear hW2
  obtain ⟨f0, f1, q0, q1, t0, t1, w0, w1, c0, c1, sz, low⟩ := rb
  have LOW := Lib.hid low; clear low
  have s0 : w.heap.size < W2.heap.size := by omega
  have s1 : w.heap.size + 1 < W2.heap.size := by omega
  have s2 : w.heap.size + 1 + 1 < W2.heap.size := by omega
  have s3 : w.heap.size + 1 + 1 + 1 < W2.heap.size := by omega
  have s4 : w.heap.size + 1 + 1 + 1 + 1 < W2.heap.size := by omega
  cases h : longB n m 0 with
  | true =>
    have H := Lib.hid h; clear h
    go_enter Try.func13, Try.ntmps13
    go_wp2_with fail
    rw [HW2.out]
    refine (long_b _ _ _ _ _ _ _ _ _ _ hn hm (by omega) H.out).mono ?_
    rintro e w1 ⟨rfl, x, rfl⟩
    go_wp2_with fail
    refine (alive_any _).mono ?_
    rintro e w1 ⟨rfl, hb⟩
    have HB := Lib.hid (thru hb (LOW.out.gw x)); clear hb
    go_wp2_with fail
    go_ret
    exact ⟨rfl, HB.out⟩
  | false =>
    obtain ⟨k1, k2, k3⟩ := longB_f h
    obtain ⟨a1, b1, x1, P1, R1⟩ := cyc_both fl fh kl kh s l
    obtain ⟨a2, b2, x2, P2, R2⟩ := wear_both tl th wl wh le
    obtain ⟨a3, b3, x3, P3, R3⟩ := plates_both aL aV n m cL cV L A B fr tt (by omega) (by omega)
    have HP1 := Lib.hid P1; clear P1
    have HP2 := Lib.hid P2; clear P2
    have HP3 := Lib.hid P3; clear P3
    have HR1 := Lib.hid R1; clear R1
    have HR2 := Lib.hid R2; clear R2
    have HR3 := Lib.hid R3; clear R3
    have H := Lib.hid h; clear h
    go_enter Try.func13, Try.ntmps13
    go_wp2_with fail
    rw [HW2.out]
    refine (long_b _ _ _ _ _ _ _ _ _ _ hn hm (by omega) H.out).mono ?_
    rintro e w1 ⟨rfl, x, rfl⟩
    go_wp2_with fail
    refine (Calls.gw_of (HP1.out _)).mono ?_
    rintro e w1 ⟨rfl, y1, rfl⟩
    go_wp2_with fail
    refine (Calls.gw_of (HR1.out _)).mono ?_
    rintro e w1 ⟨rfl, y2, rfl⟩
    go_wp2_with fail
    refine (Calls.gw_of (HP2.out _)).mono ?_
    rintro e w1 ⟨rfl, y3, rfl⟩
    go_wp2_with fail
    refine (Calls.gw_of (HR2.out _)).mono ?_
    rintro e w1 ⟨rfl, y4, rfl⟩
    go_wp2_with fail
    refine (Calls.gw_of (HP3.out _ (HL.out.below (below_gw W2 y4)) (HV.out.below (below_gw W2 y4)))).mono ?_
    rintro e w1 ⟨rfl, y5, rfl⟩
    go_wp2_with fail
    refine (Calls.gw_of (HR3.out _ (HL.out.below (below_gw W2 y5)) (HV.out.below (below_gw W2 y5)))).mono ?_
    rintro e w1 ⟨rfl, y6, rfl⟩
    go_wp2_with fail
    refine (alive_any _).mono ?_
    rintro e w1 ⟨rfl, hb⟩
    have HB := Lib.hid (thru hb (LOW.out.gw y6)); clear hb
    go_wp2_with fail
    go_ret
    exact ⟨rfl, HB.out⟩
end Go.Proofs.Ytnmldophadanbaa
