/- StillHeart: the walk of the law: short ways. No conditions beyond each theorem's own. -/
import Derived.Test.YtnmldophadanbaaKq
import Derived.Test.YtnmldophadanbaaKp
import Derived.Test.YtnmldophadanbaaLb
set_option linter.unusedVariables false
set_option linter.unusedSimpArgs false
set_option linter.unusedSectionVars false
set_option linter.constructorNameAsVariable false
namespace Go.Proofs.Ytnmldophadanbaa
open Go.RowKit

attribute [local go_sem] gw_cell gw_frozen gw_size

set_option maxRecDepth 100000 in
set_option maxHeartbeats 2000000 in
theorem heartL_short (aL aV aM aY : Option Addr) (n m k cL cV cM ny cY : Nat) (v lo hi f t : Int) (w : World) (hn : n ≤ 9223372036854775807) (hm : m ≤ 9223372036854775807) (hk : k ≤ 9223372036854775807) (hny : ny ≤ 9223372036854775807) (h : longB n m k = true ∨ (longB n m k = false ∧ ny = 0)) :
    Calls Try.prog 9 #[.agg #[.slice aL n cL, .slice aV m cV], .agg #[.int .i64 v, .int .i64 lo, .int .i64 hi], .slice aM k cM, .int .i64 f, .int .i64 t, .slice aY ny cY] w (True1 w) := by
  rcases h with h | ⟨h, rfl⟩
  all_goals
    have H := Lib.hid h; clear h
    go_enter Try.func9, Try.ntmps9
    go_wp2_with fail
    refine (long_b _ _ _ _ _ _ _ _ _ _ hn hm hk H.out).mono ?_
    rintro e w1 ⟨rfl, x, rfl⟩
    go_wp2_with fail
    refine (alive_any _).mono ?_
    rintro e w1 ⟨rfl, hb⟩
    have HB := Lib.hid (thru hb ((((Below.refl _ w).alloc (Nat.le_refl _) _).alloc (by simp) _).gw x)); clear hb
    go_wp2_with fail
    go_ret
    exact ⟨rfl, HB.out⟩

set_option maxRecDepth 100000 in
set_option maxHeartbeats 4000000 in
theorem heartL_err (aL aV aM aY : Option Addr) (m k cL cV cM ny cY : Nat) (c : Crv) (p : Pot3) (M : Nat → Int) (f t : Int) (w : World) (h : longB c.n m k = false) (h0 : 0 < ny) (hny : ny ≤ 9223372036854775807) (hL : IntsAt w aL c.n c.L) (hV : SpansAt w aV m c.A c.B) (hM : IntsAt w aM k M)
    (x : Int) (hx : heartErr m c p M k f t = x) (hx0 : x ≠ 0) :
    Calls Try.prog 9 #[.agg #[.slice aL c.n cL, .slice aV m cV], .agg #[.int .i64 p.v, .int .i64 p.lo, .int .i64 p.hi], .slice aM k cM, .int .i64 f, .int .i64 t, .slice aY ny cY] w (True1 w) := by
  obtain ⟨k1, k2, k3⟩ := longB_f h
  have n2 : ((ny : Int) == 0) = false := by simp; omega
  have x0 : (x != 0) = true := by simpa using hx0
  have x4 : (x != 4) = true := by have := heartErr_ne (m := m) (c := c) (p := p) (M := M) (k := k) (f := f) (t := t); rw [hx] at this; simpa using this
  have H := Lib.hid h; clear h
  obtain ⟨W2, hW2⟩ : ∃ W2, (w.alloc (.cells #[.slice aL c.n cL, .slice aV m cV] 25)).alloc (.cells #[.int .i64 p.v, .int .i64 p.lo, .int .i64 p.hi] 29) = W2 := ⟨_, rfl⟩
  have nb : NB w W2 aL aV c.n m cL cV p.v p.lo p.hi := by rw [← hW2]; exact nb_of w aL aV c.n m cL cV p.v p.lo p.hi _ _
  have HE := Lib.hid (fun y => Calls.gw_of (heart_err aL aV aM m cL cV k cM c p M f t (gw W2 y) (by omega) (by omega) (by omega) ((hL.below nb.low).below (below_gw W2 y)) ((hV.below nb.low).below (below_gw W2 y)) ((hM.below nb.low).below (below_gw W2 y)) x hx hx0))
  have HW2 := Lib.hid hW2; clear hW2 hL hV hM hx hx0
  have NB2 := Lib.hid nb
  obtain ⟨c0, c1, p0, p1, p2, _, _⟩ := nb
  have s0 := NB2.out.s0
  have s1 := NB2.out.s1
  go_enter Try.func9, Try.ntmps9
  go_wp2_with fail
  rw [HW2.out]
  refine (long_b _ _ _ _ _ _ _ _ _ _ (by omega) (by omega) (by omega) H.out).mono ?_
  rintro e w1 ⟨rfl, y, rfl⟩
  go_wp2_with fail
  refine (HE.out y).mono ?_
  clear HE
  rintro e w1 ⟨rfl, z, rfl⟩
  go_wp2_with fail
  refine (alive_any _).mono ?_
  rintro e w1 ⟨rfl, hb⟩
  have HB := Lib.hid (thru hb (NB2.out.low.gw z)); clear hb
  go_wp2_with fail
  go_ret
  exact ⟨rfl, HB.out⟩
end Go.Proofs.Ytnmldophadanbaa
