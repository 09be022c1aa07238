/- Contract of Cuts: an error. No conditions beyond each theorem's own. -/
import Derived.Test.YticgkhoidgkejaaMl
import Derived.Test.YticgkhoidgkejaaGh
set_option linter.unusedVariables false
set_option linter.unusedSimpArgs false
set_option linter.unusedSectionVars false
set_option linter.constructorNameAsVariable false
namespace Go.Proofs.Yticgkhoidgkejaa
open Go.RowKit

attribute [local go_sem] gw_cell gw_frozen gw_size

section
variable (aL aV aM : Option Addr) (m cL cV k cM : Nat) (c : Crv) (p : Pot3) (M : Nat → Int) (fore cut en : Int) (w : World)

set_option maxRecDepth 100000 in
set_option maxHeartbeats 2000000 in
theorem cuts_err (hn : c.n ≤ 40) (hm : m ≤ 40) (hk : k ≤ 70) (hL : IntsAt w aL c.n c.L) (hV : SpansAt w aV m c.A c.B) (hM : IntsAt w aM k M) (x : Int) (hx : cutsErr m c p M k fore cut en = x) (h0 : x ≠ 0) :
    Calls Try.prog 7 #[.agg #[.slice aL c.n cL, .slice aV m cV], .agg #[.int .i64 p.v, .int .i64 p.lo, .int .i64 p.hi], .slice aM k cM, .int .i64 fore, .int .i64 cut, .int .i64 en] w fun e w' => e = .returned (.tuple #[.slice none 0 0, .int .i64 x]) ∧ Below w.heap.size w w' := by
  have hx0 : (x != 0) = true := by simpa using h0
  obtain ⟨W2, hW2⟩ : ∃ W2, (w.alloc (.cells #[.slice aL c.n cL, .slice aV m cV] 25)).alloc (.cells #[.int .i64 p.v, .int .i64 p.lo, .int .i64 p.hi] 29) = W2 := ⟨_, rfl⟩
  have nb : NB w W2 aL aV c.n m cL cV p.v p.lo p.hi := by rw [← hW2]; exact nb_of w aL aV c.n m cL cV p.v p.lo p.hi _ _
  have HL := Lib.hid (hL.below nb.low); clear hL
  have HV := Lib.hid (hV.below nb.low); clear hV
  have HM := Lib.hid (hM.below nb.low); clear hM
  have HW2 := Lib.hid hW2; clear hW2
  have NB2 := Lib.hid nb
  obtain ⟨c0, c1, p0, p1, p2, _, _⟩ := nb
  have s0 := NB2.out.s0
  have s1 := NB2.out.s1
  unfold cutsErr at hx
  split at hx
  · have HX := Lib.hid hx; clear hx
    go_enter Try.func7, Try.ntmps7
    go_wp2_with fail
    rw [HW2.out]
    have hE := Calls.grown (early_any aL aV aM c.n m cL cV k cM c.L c.A c.B p.v p.lo p.hi W2 (by omega) (by omega) (by omega) HL.out HV.out)
    rw [HX.out] at hE
    refine hE.mono ?_
    clear hE
    rintro e w1 ⟨rfl, y, rfl⟩
    go_wp2_with fail
    go_ret2
    exact ⟨rfl, NB2.out.low.gw y⟩
  · rename_i hz
    have HZ := Lib.hid (show earlyE c.n m c.L c.A c.B p.v p.lo p.hi k = 0 from Decidable.byContradiction hz)
    clear hz
    have EA := Lib.hid (show Calls Try.prog 17 #[.agg #[.slice aL c.n cL, .slice aV m cV], .agg #[.int .i64 p.v, .int .i64 p.lo, .int .i64 p.hi], .slice aM k cM] W2 fun e w' => e = .returned (.int .i64 0) ∧ ∃ x, w' = gw W2 x by
      rw [← HZ.out]; exact Calls.grown (early_any aL aV aM c.n m cL cV k cM c.L c.A c.B p.v p.lo p.hi W2 (by omega) (by omega) (by omega) HL.out HV.out))
    cases h1 : inB fore 0 1073741824 with
    | false =>
      rw [h1] at hx
      obtain rfl : x = 2 := by rw [← hx]; rfl
      clear hx
      have H1 := Lib.hid h1; clear h1
      go_enter Try.func7, Try.ntmps7
      go_wp2_with fail
      rw [HW2.out]
      refine EA.out.mono ?_
      rintro e w1 ⟨rfl, y, rfl⟩
      go_wp2_with fail
      refine (within_b _ _ _ _ H1.out).mono ?_
      rintro e w1 ⟨rfl, rfl⟩
      go_wp2_with fail
      go_ret2
      exact ⟨rfl, NB2.out.low.gw y⟩
    | true =>
      have H1 := Lib.hid h1
      cases h2 : inB en 0 cut with
      | false =>
        rw [h1, h2] at hx
        obtain rfl : x = 2 := by rw [← hx]; rfl
        clear hx h1
        have H2 := Lib.hid h2; clear h2
        go_enter Try.func7, Try.ntmps7
        go_wp2_with fail
        rw [HW2.out]
        refine EA.out.mono ?_
        rintro e w1 ⟨rfl, y, rfl⟩
        go_wp2_with fail
        refine (within_b _ _ _ _ H1.out).mono ?_
        rintro e w1 ⟨rfl, rfl⟩
        go_wp2_with fail
        refine (within_b _ _ _ _ H2.out).mono ?_
        rintro e w1 ⟨rfl, rfl⟩
        go_wp2_with fail
        go_ret2
        exact ⟨rfl, NB2.out.low.gw y⟩
      | true =>
        rw [h1, h2] at hx
        have H2 := Lib.hid h2; clear h1 h2
        by_cases h3 : cut ≤ 10000
        · have d3 : decide (cut ≤ 10000) = true := by simpa using h3
          rw [d3] at hx
          have hx : runErr m c p M k = x := hx
          have HX := Lib.hid hx; clear hx d3
          go_enter Try.func7, Try.ntmps7
          go_wp2_with fail
          rw [HW2.out]
          refine EA.out.mono ?_
          rintro e w1 ⟨rfl, y, rfl⟩
          go_wp2_with fail
          refine (within_b _ _ _ _ H1.out).mono ?_
          rintro e w1 ⟨rfl, rfl⟩
          go_wp2_with fail
          refine (within_b _ _ _ _ H2.out).mono ?_
          rintro e w1 ⟨rfl, rfl⟩
          go_wp2_with fail
          refine (Calls.gw_of (run_err aL aV aM m cL cV k cM c p M (gw W2 y) (by omega) (by omega) (by omega) (HL.out.below (below_gw W2 y)) (HV.out.below (below_gw W2 y)) (HM.out.below (below_gw W2 y)) x HX.out h0)).mono ?_
          rintro e w1 ⟨rfl, z, rfl⟩
          go_wp2_with fail
          go_ret2
          exact ⟨rfl, (NB2.out.low.gw z).alloc (NB2.out.low.gw z).size _⟩
        · have d3 : decide (cut ≤ 10000) = false := by simpa using h3
          rw [d3] at hx
          obtain rfl : x = 2 := by rw [← hx]; rfl
          clear hx d3
          go_enter Try.func7, Try.ntmps7
          go_wp2_with fail
          rw [HW2.out]
          refine EA.out.mono ?_
          rintro e w1 ⟨rfl, y, rfl⟩
          go_wp2_with fail
          refine (within_b _ _ _ _ H1.out).mono ?_
          rintro e w1 ⟨rfl, rfl⟩
          go_wp2_with fail
          refine (within_b _ _ _ _ H2.out).mono ?_
          rintro e w1 ⟨rfl, rfl⟩
          go_wp2_with fail
          go_ret2
          exact ⟨rfl, NB2.out.low.gw y⟩
end
end Go.Proofs.Yticgkhoidgkejaa
