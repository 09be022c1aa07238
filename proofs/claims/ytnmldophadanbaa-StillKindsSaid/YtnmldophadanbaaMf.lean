/- StillSplit: the walk of the law where it is short: too long, or an error. No conditions beyond each theorem's own. -/
import Derived.Test.YtnmldophadanbaaLl
set_option linter.unusedVariables false
set_option linter.unusedSimpArgs false
set_option linter.unusedSectionVars false
set_option linter.constructorNameAsVariable false
namespace Go.Proofs.Ytnmldophadanbaa
open Go.RowKit

attribute [local go_sem] gw_cell gw_frozen gw_size

set_option maxRecDepth 100000 in
set_option maxHeartbeats 4000000 in
theorem split_long (aL aV aM : Option Addr) (n m k cL cV cM : Nat) (v lo hi a : Int) (w : World) (hn : n ≤ 9223372036854775807) (hm : m ≤ 9223372036854775807) (hk : k ≤ 9223372036854775807) (h : longB n m k = true) :
    Calls Try.prog 6 #[.agg #[.slice aL n cL, .slice aV m cV], .agg #[.int .i64 v, .int .i64 lo, .int .i64 hi], .slice aM k cM, .int .u8 a] w (True1 w) := by
  have H := Lib.hid h; clear h
  go_enter Try.func6, Try.ntmps6
  go_wp2_with fail
  refine (long_b _ _ _ _ _ _ _ _ _ _ hn hm hk H.out).mono ?_
  rintro e w1 ⟨rfl, x, rfl⟩
  go_wp2_with fail
  refine (alive_any _).mono ?_
  rintro e w1 ⟨rfl, hb⟩
  have HB := Lib.hid (thru hb ((((Below.refl _ w).alloc (Nat.le_refl _) _).alloc (by simp) _).gw x)); clear hb
  go_wp2_with fail
  go_ret
  exact ⟨rfl, HB.out⟩

set_option maxRecDepth 100000 in
set_option maxHeartbeats 4000000 in
theorem split_err (aL aV aM : Option Addr) (m k cL cV cM : Nat) (c : Crv) (p : Pot3) (M : Nat → Int) (a : Int) (w : World) (h : longB c.n m k = false) (hL : IntsAt w aL c.n c.L) (hV : SpansAt w aV m c.A c.B) (hM : IntsAt w aM k M)
    (x : Int) (hx : runErr m c p M k = x) (h0 : x ≠ 0) :
    Calls Try.prog 6 #[.agg #[.slice aL c.n cL, .slice aV m cV], .agg #[.int .i64 p.v, .int .i64 p.lo, .int .i64 p.hi], .slice aM k cM, .int .u8 a] w (True1 w) := by
  obtain ⟨k1, k2, k3⟩ := longB_f h
  have hx0 : (x != 0) = true := by simpa using h0
  have H := Lib.hid h; clear h
  obtain ⟨W2, hW2⟩ : ∃ W2, (w.alloc (.cells #[.slice aL c.n cL, .slice aV m cV] 25)).alloc (.cells #[.int .i64 p.v, .int .i64 p.lo, .int .i64 p.hi] 29) = W2 := ⟨_, rfl⟩
  have nb : NB w W2 aL aV c.n m cL cV p.v p.lo p.hi := by rw [← hW2]; exact nb_of w aL aV c.n m cL cV p.v p.lo p.hi _ _
  have HL := Lib.hid (hL.below nb.low); clear hL
  have HV := Lib.hid (hV.below nb.low); clear hV
  have HM := Lib.hid (hM.below nb.low); clear hM
  have HX := Lib.hid hx; clear hx
  have HW2 := Lib.hid hW2; clear hW2
  have NBH := Lib.hid nb
  obtain ⟨c0, c1, p0, p1, p2, _, _⟩ := nb
  have s0 := NBH.out.s0
  have s1 := NBH.out.s1
  go_enter Try.func6, Try.ntmps6
  go_wp2_with fail
  rw [HW2.out]
  refine (long_b _ _ _ _ _ _ _ _ _ _ (by omega) (by omega) (by omega) H.out).mono ?_
  rintro e w1 ⟨rfl, y, rfl⟩
  go_wp2_with fail
  have bl := below_gw W2 y
  refine (Calls.gw_of (run_err aL aV aM m cL cV k cM c p M (gw W2 y) (by omega) (by omega) (by omega) (HL.out.below bl) (HV.out.below bl) (HM.out.below bl) x HX.out h0)).mono ?_
  clear bl
  rintro e w1 ⟨rfl, z, rfl⟩
  go_wp2_with fail
  refine (alive_any _).mono ?_
  rintro e w1 ⟨rfl, hb⟩
  have HB := Lib.hid (thru hb ((NBH.out.low.gw z).alloc (NBH.out.low.gw z).size _)); clear hb
  go_wp2_with fail
  go_ret
  exact ⟨rfl, HB.out⟩
end Go.Proofs.Ytnmldophadanbaa
