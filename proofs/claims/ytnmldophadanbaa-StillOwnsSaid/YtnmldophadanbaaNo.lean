/- Contracts of the reference's early; of its Cuts and Heart with an error. No conditions beyond each theorem's own. -/
import Derived.Test.YtnmldophadanbaaNl
import Derived.Test.YtnmldophadanbaaMm
set_option linter.unusedVariables false
set_option linter.unusedSimpArgs false
set_option linter.unusedSectionVars false
set_option linter.constructorNameAsVariable false
namespace Go.Proofs.Ytnmldophadanbaa
open Go.RowKit

attribute [local go_sem] gw_cell gw_frozen gw_size

set_option maxHeartbeats 1000000 in
theorem rearly_any (aL aV aM : Option Addr) (n m cL cV k cM : Nat) (L A B : Nat → Int) (v lo hi : Int) (w : World) (hn : n ≤ 1000000000000) (hm : m ≤ 1000000000000) (hk : k ≤ 1000000000000) (hL : IntsAt w aL n L) (hV : SpansAt w aV m A B) :
    Calls Try.prog 65 #[.agg #[.slice aL n cL, .slice aV m cV], .agg #[.int .i64 v, .int .i64 lo, .int .i64 hi], .slice aM k cM] w fun e w' => e = .returned (.int .i64 (earlyE n m L A B v lo hi k)) ∧ Below w.heap.size w w' := by
  have HL := Lib.hid hL; clear hL
  have HV := Lib.hid hV; clear hV
  by_cases h0 : 64 < k
  · have HE := Lib.hid (show earlyE n m L A B v lo hi k = 3 by unfold earlyE; rw [if_pos h0])
    go_enter Try.func65, Try.ntmps65
    go_wp2_with fail
    go_ret
    exact ⟨by rw [HE.out]; rfl, ((Below.refl _ w).alloc (Nat.le_refl _) _).alloc (by simp) _⟩
  · cases hc : curveB n m L A B with
    | false =>
      have HE := Lib.hid (show earlyE n m L A B v lo hi k = 1 by unfold earlyE; rw [if_neg h0, hc]; rfl)
      have H1 := Lib.hid hc; clear hc
      go_enter Try.func65, Try.ntmps65
      go_wp2_with fail
      have hB := ((Below.refl _ w).alloc (Nat.le_refl _) (.cells #[.slice aL n cL, .slice aV m cV] 25)).alloc (by simp) (.cells #[.int .i64 v, .int .i64 lo, .int .i64 hi] 29)
      refine (rcurve_b aL aV n m cL cV L A B _ hn hm (HL.out.below hB) (HV.out.below hB) H1.out).mono ?_
      rintro e w1 ⟨rfl, hb1⟩
      have HB := Lib.hid (hB.trans (hb1.mono hB.size)); clear hB
      go_wp2_with fail
      go_ret
      exact ⟨by rw [HE.out]; rfl, HB.out⟩
    | true =>
      cases hp : potB v lo hi with
      | false =>
        have HE := Lib.hid (show earlyE n m L A B v lo hi k = 1 by unfold earlyE; rw [if_neg h0, hc, hp]; rfl)
        have H1 := Lib.hid hc; clear hc
        have H2 := Lib.hid hp; clear hp
        go_enter Try.func65, Try.ntmps65
        go_wp2_with fail
        have hB := ((Below.refl _ w).alloc (Nat.le_refl _) (.cells #[.slice aL n cL, .slice aV m cV] 25)).alloc (by simp) (.cells #[.int .i64 v, .int .i64 lo, .int .i64 hi] 29)
        refine (rcurve_b aL aV n m cL cV L A B _ hn hm (HL.out.below hB) (HV.out.below hB) H1.out).mono ?_
        rintro e w1 ⟨rfl, hb1⟩
        have HB := Lib.hid (hB.trans (hb1.mono hB.size)); clear hB
        have b0 : w1.cell? ⟨w.heap.size + 1, 0, none⟩ = some (.int .i64 v) := (hb1.cell (p := ⟨w.heap.size + 1, 0, none⟩) (by simp)).trans (by simp)
        have b1 : w1.cell? ⟨w.heap.size + 1, 1, none⟩ = some (.int .i64 lo) := (hb1.cell (p := ⟨w.heap.size + 1, 1, none⟩) (by simp)).trans (by simp)
        have b2 : w1.cell? ⟨w.heap.size + 1, 2, none⟩ = some (.int .i64 hi) := (hb1.cell (p := ⟨w.heap.size + 1, 2, none⟩) (by simp)).trans (by simp)
        clear hb1
        go_wp2_with fail
        refine (rpot_b v lo hi _ H2.out).mono ?_
        rintro e w2 ⟨rfl, hb2⟩
        have HB2 := Lib.hid (HB.out.trans (hb2.mono HB.out.size)); clear hb2
        go_wp2_with fail
        go_ret
        exact ⟨by rw [HE.out]; rfl, HB2.out⟩
      | true =>
        have HE := Lib.hid (show earlyE n m L A B v lo hi k = 0 by unfold earlyE; rw [if_neg h0, hc, hp]; rfl)
        have H1 := Lib.hid hc; clear hc
        have H2 := Lib.hid hp; clear hp
        go_enter Try.func65, Try.ntmps65
        go_wp2_with fail
        have hB := ((Below.refl _ w).alloc (Nat.le_refl _) (.cells #[.slice aL n cL, .slice aV m cV] 25)).alloc (by simp) (.cells #[.int .i64 v, .int .i64 lo, .int .i64 hi] 29)
        refine (rcurve_b aL aV n m cL cV L A B _ hn hm (HL.out.below hB) (HV.out.below hB) H1.out).mono ?_
        rintro e w1 ⟨rfl, hb1⟩
        have HB := Lib.hid (hB.trans (hb1.mono hB.size)); clear hB
        have b0 : w1.cell? ⟨w.heap.size + 1, 0, none⟩ = some (.int .i64 v) := (hb1.cell (p := ⟨w.heap.size + 1, 0, none⟩) (by simp)).trans (by simp)
        have b1 : w1.cell? ⟨w.heap.size + 1, 1, none⟩ = some (.int .i64 lo) := (hb1.cell (p := ⟨w.heap.size + 1, 1, none⟩) (by simp)).trans (by simp)
        have b2 : w1.cell? ⟨w.heap.size + 1, 2, none⟩ = some (.int .i64 hi) := (hb1.cell (p := ⟨w.heap.size + 1, 2, none⟩) (by simp)).trans (by simp)
        clear hb1
        go_wp2_with fail
        refine (rpot_b v lo hi _ H2.out).mono ?_
        rintro e w2 ⟨rfl, hb2⟩
        have HB2 := Lib.hid (HB.out.trans (hb2.mono HB.out.size)); clear hb2
        go_wp2_with fail
        go_ret
        exact ⟨by rw [HE.out]; rfl, HB2.out⟩

section
variable (aL aV aM : Option Addr) (m cL cV k cM : Nat) (c : Crv) (p : Pot3) (M : Nat → Int) (w : World)
theorem rrun_err_w (hn : c.n ≤ 40) (hm : m ≤ 40) (hk : k ≤ 70) (hL : IntsAt w aL c.n c.L) (hV : SpansAt w aV m c.A c.B) (hM : IntsAt w aM k M) (x : Int) (hx : runErr m c p M k = x) (h0 : x ≠ 0) :
    Calls Try.prog 30 #[.agg #[.slice aL c.n cL, .slice aV m cV], .agg #[.int .i64 p.v, .int .i64 p.lo, .int .i64 p.hi], .slice aM k cM] w fun e w' =>
      e = .returned (.tuple #[.slice none 0 0, .agg #[.int .i64 0, .int .i64 0, .int .i64 0], .int .i64 x]) ∧ Below w.heap.size w w' :=
  rrun_err aL aV aM m cL cV k cM c p M (by omega) (by omega) (by omega) w ⟨hL, hV⟩ hM x hx h0
end

section
variable (aL aV aM : Option Addr) (m cL cV k cM : Nat) (c : Crv) (p : Pot3) (M : Nat → Int) (fore cut en : Int) (w : World)

set_option maxRecDepth 100000 in
set_option maxHeartbeats 2000000 in
theorem rcuts_err (hn : c.n ≤ 40) (hm : m ≤ 40) (hk : k ≤ 70) (hL : IntsAt w aL c.n c.L) (hV : SpansAt w aV m c.A c.B) (hM : IntsAt w aM k M) (x : Int) (hx : cutsErr m c p M k fore cut en = x) (h0 : x ≠ 0) :
    Calls Try.prog 40 #[.agg #[.slice aL c.n cL, .slice aV m cV], .agg #[.int .i64 p.v, .int .i64 p.lo, .int .i64 p.hi], .slice aM k cM, .int .i64 fore, .int .i64 cut, .int .i64 en] w fun e w' => e = .returned (.tuple #[.slice none 0 0, .int .i64 x]) ∧ Below w.heap.size w w' := by
  have hx0 : (x != 0) = true := by simpa using h0
  obtain ⟨W2, hW2⟩ : ∃ W2, (w.alloc (.cells #[.slice aL c.n cL, .slice aV m cV] 25)).alloc (.cells #[.int .i64 p.v, .int .i64 p.lo, .int .i64 p.hi] 29) = W2 := ⟨_, rfl⟩
  have nb : NB w W2 aL aV c.n m cL cV p.v p.lo p.hi := by rw [← hW2]; exact nb_of w aL aV c.n m cL cV p.v p.lo p.hi _ _
  have HL := Lib.hid (hL.below nb.low); clear hL
  have HV := Lib.hid (hV.below nb.low); clear hV
  have HM := Lib.hid (hM.below nb.low); clear hM
  have HW2 := Lib.hid hW2; clear hW2
  have NB2 := Lib.hid nb
  obtain ⟨c0, c1, p0, p1, p2, _, _⟩ := nb
  have s0 := NB2.out.s0
  have s1 := NB2.out.s1
  unfold cutsErr at hx
  split at hx
  · have HX := Lib.hid hx; clear hx
    go_enter Try.func40, Try.ntmps40
    go_wp2_with fail
    rw [HW2.out]
    have hE := Calls.grown (rearly_any aL aV aM c.n m cL cV k cM c.L c.A c.B p.v p.lo p.hi W2 (by omega) (by omega) (by omega) HL.out HV.out)
    rw [HX.out] at hE
    refine hE.mono ?_
    clear hE
    rintro e w1 ⟨rfl, y, rfl⟩
    go_wp2_with fail
    go_ret2
    exact ⟨rfl, NB2.out.low.gw y⟩
  · rename_i hz
    have HZ := Lib.hid (show earlyE c.n m c.L c.A c.B p.v p.lo p.hi k = 0 from Decidable.byContradiction hz)
    clear hz
    have EA := Lib.hid (show Calls Try.prog 65 #[.agg #[.slice aL c.n cL, .slice aV m cV], .agg #[.int .i64 p.v, .int .i64 p.lo, .int .i64 p.hi], .slice aM k cM] W2 fun e w' => e = .returned (.int .i64 0) ∧ ∃ x, w' = gw W2 x by
      rw [← HZ.out]; exact Calls.grown (rearly_any aL aV aM c.n m cL cV k cM c.L c.A c.B p.v p.lo p.hi W2 (by omega) (by omega) (by omega) HL.out HV.out))
    cases h1 : inB fore 0 1073741824 with
    | false =>
      rw [h1] at hx
      obtain rfl : x = 2 := by rw [← hx]; rfl
      clear hx
      have H1 := Lib.hid h1; clear h1
      go_enter Try.func40, Try.ntmps40
      go_wp2_with fail
      rw [HW2.out]
      refine EA.out.mono ?_
      rintro e w1 ⟨rfl, y, rfl⟩
      go_wp2_with fail
      refine (rin_b _ _ _ _ H1.out).mono ?_
      rintro e w1 ⟨rfl, rfl⟩
      go_wp2_with fail
      go_ret2
      exact ⟨rfl, NB2.out.low.gw y⟩
    | true =>
      have H1 := Lib.hid h1
      cases h2 : inB en 0 cut with
      | false =>
        rw [h1, h2] at hx
        obtain rfl : x = 2 := by rw [← hx]; rfl
        clear hx h1
        have H2 := Lib.hid h2; clear h2
        go_enter Try.func40, Try.ntmps40
        go_wp2_with fail
        rw [HW2.out]
        refine EA.out.mono ?_
        rintro e w1 ⟨rfl, y, rfl⟩
        go_wp2_with fail
        refine (rin_b _ _ _ _ H1.out).mono ?_
        rintro e w1 ⟨rfl, rfl⟩
        go_wp2_with fail
        refine (rin_b _ _ _ _ H2.out).mono ?_
        rintro e w1 ⟨rfl, rfl⟩
        go_wp2_with fail
        go_ret2
        exact ⟨rfl, NB2.out.low.gw y⟩
      | true =>
        rw [h1, h2] at hx
        have H2 := Lib.hid h2; clear h1 h2
        by_cases h3 : cut ≤ 10000
        · have d3 : decide (cut ≤ 10000) = true := by simpa using h3
          rw [d3] at hx
          have hx : runErr m c p M k = x := hx
          have HX := Lib.hid hx; clear hx d3
          go_enter Try.func40, Try.ntmps40
          go_wp2_with fail
          rw [HW2.out]
          refine EA.out.mono ?_
          rintro e w1 ⟨rfl, y, rfl⟩
          go_wp2_with fail
          refine (rin_b _ _ _ _ H1.out).mono ?_
          rintro e w1 ⟨rfl, rfl⟩
          go_wp2_with fail
          refine (rin_b _ _ _ _ H2.out).mono ?_
          rintro e w1 ⟨rfl, rfl⟩
          go_wp2_with fail
          refine (Calls.gw_of (rrun_err_w aL aV aM m cL cV k cM c p M (gw W2 y) (by omega) (by omega) (by omega) (HL.out.below (below_gw W2 y)) (HV.out.below (below_gw W2 y)) (HM.out.below (below_gw W2 y)) x HX.out h0)).mono ?_
          rintro e w1 ⟨rfl, z, rfl⟩
          go_wp2_with fail
          go_ret2
          exact ⟨rfl, (NB2.out.low.gw z).alloc (NB2.out.low.gw z).size _⟩
        · have d3 : decide (cut ≤ 10000) = false := by simpa using h3
          rw [d3] at hx
          obtain rfl : x = 2 := by rw [← hx]; rfl
          clear hx d3
          go_enter Try.func40, Try.ntmps40
          go_wp2_with fail
          rw [HW2.out]
          refine EA.out.mono ?_
          rintro e w1 ⟨rfl, y, rfl⟩
          go_wp2_with fail
          refine (rin_b _ _ _ _ H1.out).mono ?_
          rintro e w1 ⟨rfl, rfl⟩
          go_wp2_with fail
          refine (rin_b _ _ _ _ H2.out).mono ?_
          rintro e w1 ⟨rfl, rfl⟩
          go_wp2_with fail
          go_ret2
          exact ⟨rfl, NB2.out.low.gw y⟩
end

section
variable (aL aV aM : Option Addr) (m cL cV k cM : Nat) (c : Crv) (p : Pot3) (M : Nat → Int) (f t : Int) (w : World)

set_option maxRecDepth 100000 in
set_option maxHeartbeats 2000000 in
theorem rheart_err (hn : c.n ≤ 40) (hm : m ≤ 40) (hk : k ≤ 70) (hL : IntsAt w aL c.n c.L) (hV : SpansAt w aV m c.A c.B) (hM : IntsAt w aM k M) (x : Int) (hx : heartErr m c p M k f t = x) (h0 : x ≠ 0) :
    Calls Try.prog 41 #[.agg #[.slice aL c.n cL, .slice aV m cV], .agg #[.int .i64 p.v, .int .i64 p.lo, .int .i64 p.hi], .slice aM k cM, .int .i64 f, .int .i64 t] w fun e w' =>
      e = .returned (.tuple #[.int .i64 0, .int .i64 x]) ∧ Below w.heap.size w w' := by
  have hx0 : (x != 0) = true := by simpa using h0
  obtain ⟨W2, hW2⟩ : ∃ W2, (w.alloc (.cells #[.slice aL c.n cL, .slice aV m cV] 25)).alloc (.cells #[.int .i64 p.v, .int .i64 p.lo, .int .i64 p.hi] 29) = W2 := ⟨_, rfl⟩
  have nb : NB w W2 aL aV c.n m cL cV p.v p.lo p.hi := by rw [← hW2]; exact nb_of w aL aV c.n m cL cV p.v p.lo p.hi _ _
  have HL := Lib.hid (hL.below nb.low); clear hL
  have HV := Lib.hid (hV.below nb.low); clear hV
  have HM := Lib.hid (hM.below nb.low); clear hM
  have HW2 := Lib.hid hW2; clear hW2
  have NB2 := Lib.hid nb
  obtain ⟨c0, c1, p0, p1, p2, _, _⟩ := nb
  have s0 := NB2.out.s0
  have s1 := NB2.out.s1
  unfold heartErr at hx
  split at hx
  · have HX := Lib.hid hx; clear hx
    go_enter Try.func41, Try.ntmps41
    go_wp2_with fail
    rw [HW2.out]
    have hE := Calls.grown (rearly_any aL aV aM c.n m cL cV k cM c.L c.A c.B p.v p.lo p.hi W2 (by omega) (by omega) (by omega) HL.out HV.out)
    rw [HX.out] at hE
    refine hE.mono ?_
    clear hE
    rintro e w1 ⟨rfl, y, rfl⟩
    go_wp2_with fail
    go_ret2
    exact ⟨rfl, NB2.out.low.gw y⟩
  · rename_i hz
    have HZ := Lib.hid (show earlyE c.n m c.L c.A c.B p.v p.lo p.hi k = 0 from Decidable.byContradiction hz)
    clear hz
    have EA := Lib.hid (show Calls Try.prog 65 #[.agg #[.slice aL c.n cL, .slice aV m cV], .agg #[.int .i64 p.v, .int .i64 p.lo, .int .i64 p.hi], .slice aM k cM] W2 fun e w' => e = .returned (.int .i64 0) ∧ ∃ x, w' = gw W2 x by
      rw [← HZ.out]; exact Calls.grown (rearly_any aL aV aM c.n m cL cV k cM c.L c.A c.B p.v p.lo p.hi W2 (by omega) (by omega) (by omega) HL.out HV.out))
    cases h1 : inB f 0 (k - 1) with
    | false =>
      rw [h1] at hx
      obtain rfl : x = 2 := by rw [← hx]; rfl
      clear hx
      have H1 := Lib.hid h1; clear h1
      go_enter Try.func41, Try.ntmps41
      go_wp2_with fail
      rw [HW2.out]
      refine EA.out.mono ?_
      rintro e w1 ⟨rfl, y, rfl⟩
      go_wp2_with fail
      refine (rin_b _ _ _ _ H1.out).mono ?_
      rintro e w1 ⟨rfl, rfl⟩
      go_wp2_with fail
      go_ret2
      exact ⟨rfl, NB2.out.low.gw y⟩
    | true =>
      have H1 := Lib.hid h1
      cases h2 : inB t 1 10000 with
      | false =>
        rw [h1, h2] at hx
        obtain rfl : x = 2 := by rw [← hx]; rfl
        clear hx h1
        have H2 := Lib.hid h2; clear h2
        go_enter Try.func41, Try.ntmps41
        go_wp2_with fail
        rw [HW2.out]
        refine EA.out.mono ?_
        rintro e w1 ⟨rfl, y, rfl⟩
        go_wp2_with fail
        refine (rin_b _ _ _ _ H1.out).mono ?_
        rintro e w1 ⟨rfl, rfl⟩
        go_wp2_with fail
        refine (rin_b _ _ _ _ H2.out).mono ?_
        rintro e w1 ⟨rfl, rfl⟩
        go_wp2_with fail
        go_ret2
        exact ⟨rfl, NB2.out.low.gw y⟩
      | true =>
        rw [h1, h2] at hx
        have hx : runErr m c p M k = x := hx
        have HX := Lib.hid hx; clear hx h1
        have H2 := Lib.hid h2; clear h2
        go_enter Try.func41, Try.ntmps41
        go_wp2_with fail
        rw [HW2.out]
        refine EA.out.mono ?_
        rintro e w1 ⟨rfl, y, rfl⟩
        go_wp2_with fail
        refine (rin_b _ _ _ _ H1.out).mono ?_
        rintro e w1 ⟨rfl, rfl⟩
        go_wp2_with fail
        refine (rin_b _ _ _ _ H2.out).mono ?_
        rintro e w1 ⟨rfl, rfl⟩
        go_wp2_with fail
        refine (Calls.gw_of (rrun_err_w aL aV aM m cL cV k cM c p M (gw W2 y) (by omega) (by omega) (by omega) (HL.out.below (below_gw W2 y)) (HV.out.below (below_gw W2 y)) (HM.out.below (below_gw W2 y)) x HX.out h0)).mono ?_
        rintro e w1 ⟨rfl, z, rfl⟩
        go_wp2_with fail
        go_ret2
        exact ⟨rfl, (NB2.out.low.gw z).alloc (NB2.out.low.gw z).size _⟩
end
end Go.Proofs.Ytnmldophadanbaa
