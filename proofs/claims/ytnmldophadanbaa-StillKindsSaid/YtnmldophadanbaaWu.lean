/- Contract of Heart. No conditions beyond each theorem's own. -/
import Derived.Test.YtnmldophadanbaaWt
import Derived.Test.YtnmldophadanbaaLm
set_option linter.unusedVariables false
set_option linter.unusedSimpArgs false
set_option linter.unusedSectionVars false
set_option linter.constructorNameAsVariable false
namespace Go.Proofs.Ytnmldophadanbaa
open Go.RowKit

attribute [local go_sem] gw_cell gw_frozen gw_size

/-- by how much the amounts from one on have more than the target, times 10000 -/
def heartO (D : Nat → Dr3) (f : Nat) (t : Int) : Nat → Int
  | 0 => 0
  | j + 1 => heartO D f t j + ((D (f + j)).lo * 10000 - t * (D (f + j)).d)
/-- the last amount with which the target is reached; -1: none -/
def heartB (D : Nat → Dr3) (f : Nat) (t : Int) : Nat → Int
  | 0 => -1
  | j + 1 => if 0 ≤ heartO D f t (j + 1) then f + j else heartB D f t j
def heartErr (m : Nat) (c : Crv) (p : Pot3) (M : Nat → Int) (k : Nat) (f t : Int) : Int :=
  if earlyE c.n m c.L c.A c.B p.v p.lo p.hi k ≠ 0 then earlyE c.n m c.L c.A c.B p.v p.lo p.hi k else if inB f 0 (k - 1) && inB t 1 10000 then runErr m c p M k else 2

section
variable (aL aV aM : Option Addr) (m cL cV k cM : Nat) (c : Crv) (p : Pot3) (M : Nat → Int) (f t : Int) (w : World)

set_option maxRecDepth 100000 in
set_option maxHeartbeats 2000000 in
theorem heart_err (hn : c.n ≤ 40) (hm : m ≤ 40) (hk : k ≤ 70) (hL : IntsAt w aL c.n c.L) (hV : SpansAt w aV m c.A c.B) (hM : IntsAt w aM k M) (x : Int) (hx : heartErr m c p M k f t = x) (h0 : x ≠ 0) :
    Calls Try.prog 33 #[.agg #[.slice aL c.n cL, .slice aV m cV], .agg #[.int .i64 p.v, .int .i64 p.lo, .int .i64 p.hi], .slice aM k cM, .int .i64 f, .int .i64 t] w fun e w' =>
      e = .returned (.tuple #[.int .i64 0, .int .i64 x]) ∧ Below w.heap.size w w' := by
  have hx0 : (x != 0) = true := by simpa using h0
  obtain ⟨W2, hW2⟩ : ∃ W2, (w.alloc (.cells #[.slice aL c.n cL, .slice aV m cV] 25)).alloc (.cells #[.int .i64 p.v, .int .i64 p.lo, .int .i64 p.hi] 29) = W2 := ⟨_, rfl⟩
  have nb : NB w W2 aL aV c.n m cL cV p.v p.lo p.hi := by rw [← hW2]; exact nb_of w aL aV c.n m cL cV p.v p.lo p.hi _ _
  have HL := Lib.hid (hL.below nb.low); clear hL
  have HV := Lib.hid (hV.below nb.low); clear hV
  have HM := Lib.hid (hM.below nb.low); clear hM
  have HW2 := Lib.hid hW2; clear hW2
  have NB2 := Lib.hid nb
  obtain ⟨c0, c1, p0, p1, p2, _, _⟩ := nb
  have s0 := NB2.out.s0
  have s1 := NB2.out.s1
  unfold heartErr at hx
  split at hx
  · have HX := Lib.hid hx; clear hx
    go_enter Try.func33, Try.ntmps33
    go_wp2_with fail
    rw [HW2.out]
    have hE := Calls.grown (early_any aL aV aM c.n m cL cV k cM c.L c.A c.B p.v p.lo p.hi W2 (by omega) (by omega) (by omega) HL.out HV.out)
    rw [HX.out] at hE
    refine hE.mono ?_
    clear hE
    rintro e w1 ⟨rfl, y, rfl⟩
    go_wp2_with fail
    go_ret2
    exact ⟨rfl, NB2.out.low.gw y⟩
  · rename_i hz
    have HZ := Lib.hid (show earlyE c.n m c.L c.A c.B p.v p.lo p.hi k = 0 from Decidable.byContradiction hz)
    clear hz
    have EA := Lib.hid (show Calls Try.prog 43 #[.agg #[.slice aL c.n cL, .slice aV m cV], .agg #[.int .i64 p.v, .int .i64 p.lo, .int .i64 p.hi], .slice aM k cM] W2 fun e w' => e = .returned (.int .i64 0) ∧ ∃ x, w' = gw W2 x by
      rw [← HZ.out]; exact Calls.grown (early_any aL aV aM c.n m cL cV k cM c.L c.A c.B p.v p.lo p.hi W2 (by omega) (by omega) (by omega) HL.out HV.out))
    cases h1 : inB f 0 (k - 1) with
    | false =>
      rw [h1] at hx
      obtain rfl : x = 2 := by rw [← hx]; rfl
      clear hx
      have H1 := Lib.hid h1; clear h1
      go_enter Try.func33, Try.ntmps33
      go_wp2_with fail
      rw [HW2.out]
      refine EA.out.mono ?_
      rintro e w1 ⟨rfl, y, rfl⟩
      go_wp2_with fail
      refine (within_b _ _ _ _ H1.out).mono ?_
      rintro e w1 ⟨rfl, rfl⟩
      go_wp2_with fail
      go_ret2
      exact ⟨rfl, NB2.out.low.gw y⟩
    | true =>
      have H1 := Lib.hid h1
      cases h2 : inB t 1 10000 with
      | false =>
        rw [h1, h2] at hx
        obtain rfl : x = 2 := by rw [← hx]; rfl
        clear hx h1
        have H2 := Lib.hid h2; clear h2
        go_enter Try.func33, Try.ntmps33
        go_wp2_with fail
        rw [HW2.out]
        refine EA.out.mono ?_
        rintro e w1 ⟨rfl, y, rfl⟩
        go_wp2_with fail
        refine (within_b _ _ _ _ H1.out).mono ?_
        rintro e w1 ⟨rfl, rfl⟩
        go_wp2_with fail
        refine (within_b _ _ _ _ H2.out).mono ?_
        rintro e w1 ⟨rfl, rfl⟩
        go_wp2_with fail
        go_ret2
        exact ⟨rfl, NB2.out.low.gw y⟩
      | true =>
        rw [h1, h2] at hx
        have hx : runErr m c p M k = x := hx
        have HX := Lib.hid hx; clear hx h1
        have H2 := Lib.hid h2; clear h2
        go_enter Try.func33, Try.ntmps33
        go_wp2_with fail
        rw [HW2.out]
        refine EA.out.mono ?_
        rintro e w1 ⟨rfl, y, rfl⟩
        go_wp2_with fail
        refine (within_b _ _ _ _ H1.out).mono ?_
        rintro e w1 ⟨rfl, rfl⟩
        go_wp2_with fail
        refine (within_b _ _ _ _ H2.out).mono ?_
        rintro e w1 ⟨rfl, rfl⟩
        go_wp2_with fail
        refine (Calls.gw_of (run_err aL aV aM m cL cV k cM c p M (gw W2 y) (by omega) (by omega) (by omega) (HL.out.below (below_gw W2 y)) (HV.out.below (below_gw W2 y)) (HM.out.below (below_gw W2 y)) x HX.out h0)).mono ?_
        rintro e w1 ⟨rfl, z, rfl⟩
        go_wp2_with fail
        go_ret2
        exact ⟨rfl, (NB2.out.low.gw z).alloc (NB2.out.low.gw z).size _⟩
end
end Go.Proofs.Ytnmldophadanbaa
