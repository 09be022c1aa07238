/- Contracts of the reference's SameDrawn and Ints at equal lists. Plain law: a run that is cut in two. Contract of Heart. Contract of Heart where there is no error. Contract of still.Draw. Contract of still.Draw where there is no error. No conditions beyond each theorem its own. StillSplit: the walk of the law where it is short: too long, or an error. StillSplit: what the walk where the run goes through needs. No conditions beyond each theorem's own. -/
import Derived.Test.YthmnlakgcoojhaaGg
import Derived.Test.YthmnlakgcoojhaaGb
import Derived.StillTailTactics
import Derived.Deep.RegionHeld3
import Derived.Deep.DeepCutAuto
set_option linter.unusedVariables false
set_option linter.unusedSimpArgs false
set_option linter.unusedSectionVars false
set_option linter.constructorNameAsVariable false

namespace Go.Proofs.Ythmnlakgcoojhaa.L4
open Go.RowKit

attribute [local go_sem] gw_cell gw_frozen gw_size

/-- by how much the amounts from one on have more than the target, times 10000 -/
def heartO (D : Nat → Dr3) (f : Nat) (t : Int) : Nat → Int
  | 0 => 0
  | j + 1 => heartO D f t j + ((D (f + j)).lo * 10000 - t * (D (f + j)).d)
/-- the last amount with which the target is reached; -1: none -/
def heartB (D : Nat → Dr3) (f : Nat) (t : Int) : Nat → Int
  | 0 => -1
  | j + 1 => if 0 ≤ heartO D f t (j + 1) then f + j else heartB D f t j
def heartErr (m : Nat) (c : Crv) (p : Pot3) (M : Nat → Int) (k : Nat) (f t : Int) : Int :=
  if earlyE c.n m c.L c.A c.B p.v p.lo p.hi k ≠ 0 then earlyE c.n m c.L c.A c.B p.v p.lo p.hi k else if inB f 0 (k - 1) && inB t 1 10000 then runErr m c p M k else 2

section
variable (aL aV aM : Option Addr) (m cL cV k cM : Nat) (c : Crv) (p : Pot3) (M : Nat → Int) (f t : Int) (w : World)

set_option maxRecDepth 100000 in
set_option maxHeartbeats 2000000 in
theorem heart_err (hn : c.n ≤ 40) (hm : m ≤ 40) (hk : k ≤ 70) (hL : IntsAt w aL c.n c.L) (hV : SpansAt w aV m c.A c.B) (hM : IntsAt w aM k M) (x : Int) (hx : heartErr m c p M k f t = x) (h0 : x ≠ 0) :
    Calls Try.prog 5 #[.agg #[.slice aL c.n cL, .slice aV m cV], .agg #[.int .i64 p.v, .int .i64 p.lo, .int .i64 p.hi], .slice aM k cM, .int .i64 f, .int .i64 t] w fun e w' =>
      e = .returned (.tuple #[.int .i64 0, .int .i64 x]) ∧ Below w.heap.size w w' := by
  have hx0 : (x != 0) = true := by simpa using h0
  obtain ⟨W2, hW2⟩ : ∃ W2, (w.alloc (.cells #[.slice aL c.n cL, .slice aV m cV] 25)).alloc (.cells #[.int .i64 p.v, .int .i64 p.lo, .int .i64 p.hi] 29) = W2 := ⟨_, rfl⟩
  have nb : NB w W2 aL aV c.n m cL cV p.v p.lo p.hi := by rw [← hW2]; exact nb_of w aL aV c.n m cL cV p.v p.lo p.hi _ _
  have HL := Lib.hid (hL.below nb.low); clear hL
  have HV := Lib.hid (hV.below nb.low); clear hV
  have HM := Lib.hid (hM.below nb.low); clear hM
  have HW2 := Lib.hid hW2; clear hW2
  have NB2 := Lib.hid nb
  obtain ⟨c0, c1, p0, p1, p2, _, _⟩ := nb
  have s0 := NB2.out.s0
  have s1 := NB2.out.s1
  unfold heartErr at hx
  split at hx
  · have HX := Lib.hid hx; clear hx
    go_enter Try.func5, Try.ntmps5
    go_wp2_with fail
    rw [HW2.out]
    have hE := Calls.grown (early_any aL aV aM c.n m cL cV k cM c.L c.A c.B p.v p.lo p.hi W2 (by omega) (by omega) (by omega) HL.out HV.out)
    rw [HX.out] at hE
    refine hE.mono ?_
    clear hE
    rintro e w1 ⟨rfl, y, rfl⟩
    go_wp2_with fail
    go_ret2
    exact ⟨rfl, NB2.out.low.gw y⟩
  · rename_i hz
    have HZ := Lib.hid (show earlyE c.n m c.L c.A c.B p.v p.lo p.hi k = 0 from Decidable.byContradiction hz)
    clear hz
    have EA := Lib.hid (show Calls Try.prog 13 #[.agg #[.slice aL c.n cL, .slice aV m cV], .agg #[.int .i64 p.v, .int .i64 p.lo, .int .i64 p.hi], .slice aM k cM] W2 fun e w' => e = .returned (.int .i64 0) ∧ ∃ x, w' = gw W2 x by
      rw [← HZ.out]; exact Calls.grown (early_any aL aV aM c.n m cL cV k cM c.L c.A c.B p.v p.lo p.hi W2 (by omega) (by omega) (by omega) HL.out HV.out))
    cases h1 : inB f 0 (k - 1) with
    | false =>
      rw [h1] at hx
      obtain rfl : x = 2 := by rw [← hx]; rfl
      clear hx
      have H1 := Lib.hid h1; clear h1
      go_enter Try.func5, Try.ntmps5
      go_wp2_with fail
      rw [HW2.out]
      refine EA.out.mono ?_
      rintro e w1 ⟨rfl, y, rfl⟩
      go_wp2_with fail
      refine (within_b _ _ _ _ H1.out).mono ?_
      rintro e w1 ⟨rfl, rfl⟩
      go_wp2_with fail
      go_ret2
      exact ⟨rfl, NB2.out.low.gw y⟩
    | true =>
      have H1 := Lib.hid h1
      cases h2 : inB t 1 10000 with
      | false =>
        rw [h1, h2] at hx
        obtain rfl : x = 2 := by rw [← hx]; rfl
        clear hx h1
        have H2 := Lib.hid h2; clear h2
        go_enter Try.func5, Try.ntmps5
        go_wp2_with fail
        rw [HW2.out]
        refine EA.out.mono ?_
        rintro e w1 ⟨rfl, y, rfl⟩
        go_wp2_with fail
        refine (within_b _ _ _ _ H1.out).mono ?_
        rintro e w1 ⟨rfl, rfl⟩
        go_wp2_with fail
        refine (within_b _ _ _ _ H2.out).mono ?_
        rintro e w1 ⟨rfl, rfl⟩
        go_wp2_with fail
        go_ret2
        exact ⟨rfl, NB2.out.low.gw y⟩
      | true =>
        rw [h1, h2] at hx
        have hx : runErr m c p M k = x := hx
        have HX := Lib.hid hx; clear hx h1
        have H2 := Lib.hid h2; clear h2
        go_enter Try.func5, Try.ntmps5
        go_wp2_with fail
        rw [HW2.out]
        refine EA.out.mono ?_
        rintro e w1 ⟨rfl, y, rfl⟩
        go_wp2_with fail
        refine (within_b _ _ _ _ H1.out).mono ?_
        rintro e w1 ⟨rfl, rfl⟩
        go_wp2_with fail
        refine (within_b _ _ _ _ H2.out).mono ?_
        rintro e w1 ⟨rfl, rfl⟩
        go_wp2_with fail
        refine (Calls.gw_of (run_err aL aV aM m cL cV k cM c p M (gw W2 y) (by omega) (by omega) (by omega) (HL.out.below (below_gw W2 y)) (HV.out.below (below_gw W2 y)) (HM.out.below (below_gw W2 y)) x HX.out h0)).mono ?_
        rintro e w1 ⟨rfl, z, rfl⟩
        go_wp2_with fail
        go_ret2
        exact ⟨rfl, (NB2.out.low.gw z).alloc (NB2.out.low.gw z).size _⟩
end
end Go.Proofs.Ythmnlakgcoojhaa.L4

namespace Go.Proofs.Ythmnlakgcoojhaa.L4
open Go.RowKit

attribute [local go_sem] gw_cell gw_frozen gw_size

theorem drawn_of_own' {w : World} {base k : Nat} {e : TypeId} {c : Crv} {p : Pot3} {M : Nat → Int} {v : Value} (h : w.ownsRow base e 3 v k (c.outs p M k)) (hk : 0 < k) : ∃ b cap, v = .slice (some ⟨b, 0, none⟩) k cap ∧ k ≤ cap ∧ cap ≤ maxLen ∧ b < w.heap.size ∧ ∀ i, i < k → w.cell? ⟨b, 0 + i * 3, none⟩ = some (.int .i64 (c.outAt p M i).d) ∧ w.cell? ⟨b, 0 + i * 3 + 1, none⟩ = some (.int .i64 (c.outAt p M i).lo) ∧ w.cell? ⟨b, 0 + i * 3 + 2, none⟩ = some (.int .i64 (c.outAt p M i).hi) := by
  rcases h.2 with ⟨rfl, h0⟩ | ⟨g, cap, cur, rfl, hg, hgb, h1, h2, _⟩
  · omega
  · refine ⟨g, cap, rfl, h1, h2, (Array.getElem?_eq_some_iff.1 hgb).1, fun i hi => ?_⟩
    obtain ⟨q1, q2, q3⟩ := outs_get c p M k i hi
    simp only [Nat.zero_add]
    exact ⟨row_cells h _ _ q1, row_cells h _ _ q2, row_cells h _ _ q3⟩

theorem heartO_bound {D : Nat → Dr3} {f : Nat} {t : Int} (ht0 : 0 ≤ t) (ht : t ≤ 10000) : ∀ j : Nat, (∀ i, i < j → 0 ≤ (D (f + i)).lo ∧ (D (f + i)).lo ≤ 1073741824 ∧ 0 ≤ (D (f + i)).d ∧ (D (f + i)).d ≤ 1073741824) →
    -(j * 10737418240000 : Int) ≤ heartO D f t j ∧ heartO D f t j ≤ j * 10737418240000
  | 0, _ => by simp [heartO]
  | j + 1, h => by
    have ih := heartO_bound ht0 ht j fun i hi => h i (by omega)
    obtain ⟨h1, h2, h3, h4⟩ := h j (by omega)
    have a1 : 0 ≤ t * (D (f + j)).d := Int.mul_nonneg ht0 h3
    have a2 : t * (D (f + j)).d ≤ 10000 * 1073741824 := Int.mul_le_mul ht h4 h3 (by omega)
    unfold heartO
    have e : ((j + 1 : Nat) : Int) * 10737418240000 = j * 10737418240000 + 10737418240000 := by rw [Int.natCast_add, Int.add_mul]; simp
    omega
theorem heartB_range (D : Nat → Dr3) (f : Nat) (t : Int) : ∀ j : Nat, -1 ≤ heartB D f t j ∧ heartB D f t j < f + j ∨ heartB D f t j = -1
  | 0 => .inr rfl
  | j + 1 => by
    unfold heartB
    split
    · left; omega
    · rcases heartB_range D f t j with h | h
      · left; omega
      · right; exact h

/-- an ending of Heart -/
def HeartEnd (b : Int) (e : Ending) : Prop := e = .returned (if b < 0 then .tuple #[.int .i64 0, .int .i64 4] else .tuple #[.int .i64 b, .int .i64 0])

theorem heart_valid {m : Nat} {c : Crv} {p : Pot3} {M : Nat → Int} {k : Nat} {f t : Int} (h : heartErr m c p M k f t = 0) : earlyE c.n m c.L c.A c.B p.v p.lo p.hi k = 0 ∧ inB f 0 (k - 1) = true ∧ inB t 1 10000 = true ∧ runErr m c p M k = 0 := by
  unfold heartErr at h
  split at h
  · rename_i h1; exact absurd h h1
  · rename_i h1
    split at h
    · rename_i h2
      simp only [Bool.and_eq_true] at h2
      exact ⟨Decidable.byContradiction h1, h2.1, h2.2, h⟩
    · omega

set_option maxRecDepth 100000 in
set_option maxHeartbeats 4000000 in
theorem heart_ok (aL aV aM : Option Addr) (m cL cV k cM : Nat) (c : Crv) (p : Pot3) (M : Nat → Int) (f t : Int) (w : World) (hn : c.n ≤ 40) (hm : m ≤ 40) (hL : IntsAt w aL c.n c.L) (hV : SpansAt w aV m c.A c.B) (hM : IntsAt w aM k M) (hx : heartErr m c p M k f t = 0) :
    Calls Try.prog 5 #[.agg #[.slice aL c.n cL, .slice aV m cV], .agg #[.int .i64 p.v, .int .i64 p.lo, .int .i64 p.hi], .slice aM k cM, .int .i64 f, .int .i64 t] w fun e w' =>
      HeartEnd (heartB (c.outAt p M) f.toNat t (k - f.toNat)) e ∧ Below w.heap.size w w' := by
  obtain ⟨hz, h1, h2, hr⟩ := heart_valid hx
  obtain ⟨_, k64, rfl, g, hp, hgo, hok⟩ := run_zero hr
  have r1 := inB_t.1 h1
  have r2 := inB_t.1 h2
  obtain ⟨fn, rfl⟩ : ∃ fn : Nat, f = fn := ⟨f.toNat, by omega⟩
  rw [Int.toNat_natCast]
  have BD := Lib.hid (fun i (hi : i < k) => show 0 ≤ (c.outAt p M i).lo ∧ (c.outAt p M i).lo ≤ 1073741824 ∧ 0 ≤ (c.outAt p M i).d ∧ (c.outAt p M i).d ≤ 1073741824 by
    have n := next_ok g (hok i (by omega)) (show errD (c.potAt p M i) (M i) = 0 from hgo i hi)
    have d := inB_t.1 (errD_zero (show errD (c.potAt p M i) (M i) = 0 from hgo i hi)).1
    have e1 : (c.outAt p M i).lo = c.least (c.potAt p M i) (M i) := rfl
    have e2 : (c.outAt p M i).d = M i := rfl
    rw [e1, e2]; omega)
  clear hgo hok hp g
  obtain ⟨W2, hW2⟩ : ∃ W2, (w.alloc (.cells #[.slice aL c.n cL, .slice aV c.n cV] 25)).alloc (.cells #[.int .i64 p.v, .int .i64 p.lo, .int .i64 p.hi] 29) = W2 := ⟨_, rfl⟩
  have nb : NB w W2 aL aV c.n c.n cL cV p.v p.lo p.hi := by rw [← hW2]; exact nb_of w aL aV c.n c.n cL cV p.v p.lo p.hi _ _
  have HL := Lib.hid (hL.below nb.low); clear hL
  have HV := Lib.hid (hV.below nb.low); clear hV
  have HM := Lib.hid (hM.below nb.low); clear hM
  have HW2 := Lib.hid hW2; clear hW2
  have EA := Lib.hid (show Calls Try.prog 13 #[.agg #[.slice aL c.n cL, .slice aV c.n cV], .agg #[.int .i64 p.v, .int .i64 p.lo, .int .i64 p.hi], .slice aM k cM] W2 fun e w' => e = .returned (.int .i64 0) ∧ ∃ x, w' = gw W2 x by
    rw [← hz]; exact Calls.grown (early_any aL aV aM c.n c.n cL cV k cM c.L c.A c.B p.v p.lo p.hi W2 (by omega) (by omega) (by omega) HL.out HV.out))
  have H1 := Lib.hid h1; clear h1
  have H2 := Lib.hid h2; clear h2
  have HRN := Lib.hid hr; clear hr hx hz
  have NB2 := Lib.hid nb
  obtain ⟨c0, c1, p0, p1, p2, _, _⟩ := nb
  have s0 := NB2.out.s0
  have s1 := NB2.out.s1
  obtain ⟨D, HD⟩ : ∃ D, Hid (c.outAt p M = D) := ⟨_, Lib.hid rfl⟩
  rw [HD.out] at BD
  rw [HD.out]
  go_enter Try.func5, Try.ntmps5
  go_wp2_with fail
  rw [HW2.out]
  refine EA.out.mono ?_
  clear EA
  rintro e w1 ⟨rfl, y, rfl⟩
  go_wp2_with fail
  refine (within_b _ _ _ _ H1.out).mono ?_
  rintro e w1 ⟨rfl, rfl⟩
  go_wp2_with fail
  refine (within_b _ _ _ _ H2.out).mono ?_
  rintro e w1 ⟨rfl, rfl⟩
  go_wp2_with fail
  refine (run_ok aL aV aM c.n cL cV k cM c p M (gw W2 y) (by omega) (by omega) (HL.out.below (below_gw W2 y)) (HV.out.below (below_gw W2 y)) (HM.out.below (below_gw W2 y)) HRN.out).mono ?_
  rintro e w3 ⟨vl, rfl, hown, hb3⟩
  obtain ⟨b, cap, rfl, cap1, cap2, lb, hD⟩ := drawn_of_own' hown (by omega)
  rw [HD.out] at hD
  have B23 := Lib.hid (thru hb3 (below_gw W2 y)); clear hb3 hown
  obtain ⟨E, hE⟩ : ∃ E, E = c.potAt p M k := ⟨_, rfl⟩
  rw [← hE]
  clear hE
  obtain ⟨W4, hW4⟩ : ∃ W4, w3.alloc (.cells #[.int .i64 E.v, .int .i64 E.lo, .int .i64 E.hi] 29) = W4 := ⟨_, rfl⟩
  have B34 : Below w3.heap.size w3 W4 := by rw [← hW4]; exact below_alloc _ _
  have LOW4 := Lib.hid (thru B34 (thru B23.out NB2.out.low))
  have lb4 : b < W4.heap.size := Nat.lt_of_lt_of_le lb B34.size
  have HD4 := Lib.hid (fun i (hi : i < k) => show W4.cell? ⟨b, 0 + i * 3, none⟩ = some (.int .i64 (D i).d) ∧ W4.cell? ⟨b, 0 + i * 3 + 1, none⟩ = some (.int .i64 (D i).lo) ∧ W4.cell? ⟨b, 0 + i * 3 + 2, none⟩ = some (.int .i64 (D i).hi) from
    ⟨(B34.cell (p := ⟨b, _, none⟩) lb).trans (hD i hi).1, (B34.cell (p := ⟨b, _, none⟩) lb).trans (hD i hi).2.1, (B34.cell (p := ⟨b, _, none⟩) lb).trans (hD i hi).2.2⟩)
  have HW4 := Lib.hid hW4
  clear hD hW4 B34 c0 c1 p0 p1 p2 s0 s1 lb
  unfold maxLen at cap2
  have nc : ¬ cap = fn := by omega
  have fk : fn ≤ k := by omega
  go_wp2_with fail
  rw [HW4.out]
  have kf : ((k - fn : Nat) : Int) = k - fn := by omega
  have KF := Lib.hid kf; clear kf
  go_loopw [16, 17, 53] (fun bs ov i wr => ∃ j : Nat, j ≤ k - fn ∧ i = .int .i64 j ∧ bs = .int .i64 (heartB D fn t j) ∧ ov = .int .i64 (heartO D fn t j) ∧ ∃ x, wr = gw W4 x) (fun _ _ i _ => (k - fn) - (intOf i).toNat)
  case atStart => exact ⟨0, by omega, rfl, rfl, rfl, ⟨#[], W4.drawn⟩, by simp [gw]⟩
  case round =>
    obtain ⟨j, hj, rfl, rfl, rfl, x, rfl⟩ := hrel
    have ob := heartO_bound (D := D) (f := fn) (by omega : 0 ≤ t) r2.2 j (fun i hi => BD.out (fn + i) (by omega))
    have ob1 : -1000000000000000 ≤ heartO D fn t j ∧ heartO D fn t j ≤ 1000000000000000 := by omega
    clear ob
    by_cases hlt : j < k - fn
    · have hj2 : fn + j < k := by omega
      obtain ⟨d0, d1, d2⟩ := HD4.out (fn + j) hj2
      have ea : 0 + (fn + j) * 3 = fn * 3 + j * 3 := by omega
      rw [ea] at d0 d1 d2
      clear ea
      obtain ⟨b1, b2, b3, b4⟩ := BD.out (fn + j) hj2
      have HO := Lib.hid (show heartO D fn t (j + 1) = heartO D fn t j + ((D (fn + j)).lo * 10000 - t * (D (fn + j)).d) from rfl)
      have HBt := Lib.hid (show 0 ≤ heartO D fn t (j + 1) → heartB D fn t (j + 1) = fn + j from fun h => by unfold heartB; rw [if_pos h])
      have HBf := Lib.hid (show ¬ 0 ≤ heartO D fn t (j + 1) → heartB D fn t (j + 1) = heartB D fn t j from fun h => by conv => lhs; unfold heartB; rw [if_neg h])
      generalize (D (fn + j)).lo = lo at *
      generalize (D (fn + j)).d = d at *
      generalize (D (fn + j)).hi = hi at *
      have m1 : 0 ≤ t * d := Int.mul_nonneg (by omega) b3
      have m2 : t * d ≤ 10000 * 1073741824 := Int.mul_le_mul r2.2 b4 b3 (by omega)
      have NX := Lib.hid (gw_of_below (thru (below_alloc (gw W4 x) (.cells #[.int .i64 d, .int .i64 lo, .int .i64 hi] 39)) (below_gw W4 x)))
      by_cases ge : 0 ≤ heartO D fn t j + (lo * 10000 - t * d)
      · go_wp2_with fail
        go_roundw
        case rel => exact ⟨j + 1, by omega, by go_num, by rw [HBt.out (by rw [HO.out]; exact ge)], by rw [HO.out], NX.out⟩
        case measure => simp [intOf]; omega
      · go_wp2_with fail
        go_roundw
        case rel => exact ⟨j + 1, by omega, by go_num, by rw [HBf.out (by rw [HO.out]; exact ge)], by rw [HO.out], NX.out⟩
        case measure => simp [intOf]; omega
    · obtain rfl : k - fn = j := by omega
      obtain ⟨bb, hbb⟩ : ∃ bb, heartB D fn t (k - fn) = bb := ⟨_, rfl⟩
      rw [hbb]
      have HBB := Lib.hid hbb; clear hbb
      by_cases neg : bb < 0
      · go_wp2_with fail
        go_ret2
        exact ⟨by unfold HeartEnd; rw [HBB.out, if_pos neg]; rfl, LOW4.out.gw x⟩
      · go_wp2_with fail
        go_ret2
        exact ⟨by unfold HeartEnd; rw [HBB.out, if_neg (by omega)]; rfl, LOW4.out.gw x⟩
end Go.Proofs.Ythmnlakgcoojhaa.L4

namespace Go.Proofs.Ythmnlakgcoojhaa.L4
open Go.RowKit

attribute [local go_sem] gw_cell gw_frozen gw_size

theorem drawn_own_base {w : World} {base k : Nat} {e : TypeId} {b cap : Nat} {xs : List Value} (h : w.ownsRow base e 3 (.slice (some ⟨b, 0, none⟩) k cap) k xs) (hk : 0 < k) : base ≤ b := by
  rcases h.2 with ⟨h1, h0⟩ | ⟨g, cap, cur, h1, hg, _⟩
  · omega
  · simp at h1; omega

section
variable (aL aV : Option Addr) (m cL cV : Nat) (c : Crv) (p : Pot3) (d : Int) (w : World)

/-- the world in which Draw calls Run -/
structure DB (w W : World) (aL aV : Option Addr) (n m cL cV : Nat) (v lo hi d : Int) : Prop where
  c0 : W.heap[w.heap.size + 1]? = some (.cells #[.int .i64 v, .int .i64 lo, .int .i64 hi] 29 (0, 0))
  d0 : W.heap[w.heap.size + 2]? = some (.cells #[.int .i64 0, .int .i64 0, .int .i64 0] 39 (0, 0))
  e0 : W.heap[w.heap.size + 3]? = some (.cells #[.int .i64 0, .int .i64 0, .int .i64 0] 29 (0, 0))
  s0 : W.heap[w.heap.size + 4]? = some (.cells #[.int .i64 d] 3 (0, 0))
  sz : w.heap.size + 5 ≤ W.heap.size
  low : Below w.heap.size w W

theorem db_of : DB w (((((w.alloc (.cells #[.slice aL c.n cL, .slice aV m cV] 25)).alloc (.cells #[.int .i64 p.v, .int .i64 p.lo, .int .i64 p.hi] 29)).alloc (.cells #[.int .i64 0, .int .i64 0, .int .i64 0] 39)).alloc (.cells #[.int .i64 0, .int .i64 0, .int .i64 0] 29)).alloc (.cells #[.int .i64 d] 3)) aL aV c.n m cL cV p.v p.lo p.hi d := by
  obtain ⟨z0, z1, z2, z3, z4, z5⟩ := five_blocks w (.cells #[.slice aL c.n cL, .slice aV m cV] 25) (.cells #[.int .i64 p.v, .int .i64 p.lo, .int .i64 p.hi] 29) (.cells #[.int .i64 0, .int .i64 0, .int .i64 0] 39) (.cells #[.int .i64 0, .int .i64 0, .int .i64 0] 29) (.cells #[.int .i64 d] 3)
  exact ⟨z2, z3, z4, z5, by rw [z0]; omega, (((((Below.refl _ w).alloc (Nat.le_refl _) _).alloc (by simp) _).alloc (by simp; omega) _).alloc (by simp; omega) _).alloc (by simp; omega) _⟩

theorem db_ints {w W : World} {aL aV : Option Addr} {n m cL cV : Nat} {v lo hi d : Int} (h : DB w W aL aV n m cL cV v lo hi d) : IntsAt W (some ⟨w.heap.size + 1 + 1 + 1 + 1, 0, none⟩) 1 (fun _ => d) :=
  .inr ⟨_, _, rfl, by have := h.sz; omega, fun i hi => by
    obtain rfl : i = 0 := by omega
    exact cell_of_block h.s0 0 (by simp)⟩

set_option maxRecDepth 100000 in
set_option maxHeartbeats 2000000 in
theorem drawF_err (hn : c.n ≤ 1000000000000) (hm : m ≤ 1000000000000) (hL : IntsAt w aL c.n c.L) (hV : SpansAt w aV m c.A c.B) (x : Int) (hx : runErr m c p (fun _ => d) 1 = x) (h0 : x ≠ 0) :
    Calls Try.prog 12 #[.agg #[.slice aL c.n cL, .slice aV m cV], .agg #[.int .i64 p.v, .int .i64 p.lo, .int .i64 p.hi], .int .i64 d] w fun e w' =>
      e = .returned (.tuple #[.agg #[.int .i64 0, .int .i64 0, .int .i64 0], .agg #[.int .i64 0, .int .i64 0, .int .i64 0], .int .i64 x]) ∧ Below w.heap.size w w' := by
  have hx0 : (x != 0) = true := by simpa using h0
  have HD := Lib.hid (db_of aL aV m cL cV c p d w)
  have HR := Lib.hid (fun (W : World) (hb : Below w.heap.size w W) (hI : IntsAt W (some ⟨w.heap.size + 1 + 1 + 1 + 1, 0, none⟩) 1 (fun _ => d)) => Calls.grown (run_err aL aV (some ⟨w.heap.size + 1 + 1 + 1 + 1, 0, none⟩) m cL cV 1 1 c p (fun _ => d) W hn hm (by omega) (hL.below hb) (hV.below hb) hI x hx h0))
  clear hL hV hx h0
  go_enter Try.func12, Try.ntmps12
  go_wp2_with fail
  generalize ((((w.alloc (.cells #[.slice aL c.n cL, .slice aV m cV] 25)).alloc (.cells #[.int .i64 p.v, .int .i64 p.lo, .int .i64 p.hi] 29)).alloc (.cells #[.int .i64 0, .int .i64 0, .int .i64 0] 39)).alloc (.cells #[.int .i64 0, .int .i64 0, .int .i64 0] 29)).alloc (.cells #[.int .i64 d] 3) = W at *
  refine (HR.out W HD.out.low (db_ints HD.out)).mono ?_
  clear HR
  rintro e w1 ⟨rfl, y, rfl⟩
  have K1 := (gw_block W y _ (Array.getElem?_eq_some_iff.1 HD.out.c0).1).trans HD.out.c0
  have K2 := (gw_block W y _ (Array.getElem?_eq_some_iff.1 HD.out.d0).1).trans HD.out.d0
  have K3 := (gw_block W y _ (Array.getElem?_eq_some_iff.1 HD.out.e0).1).trans HD.out.e0
  have HB := Lib.hid ((HD.out.low).gw y)
  generalize gw W y = V at *
  have p0 := cell_of_block K1 0 (by simp)
  have p1 := cell_of_block K1 1 (by simp)
  have p2 := cell_of_block K1 2 (by simp)
  have q0 := frozen_of_block K1 0
  have q1 := frozen_of_block K1 1
  have q2 := frozen_of_block K1 2
  have r0 := cell_of_block K2 0 (by simp)
  have r1 := cell_of_block K2 1 (by simp)
  have r2 := cell_of_block K2 2 (by simp)
  have s0 := frozen_of_block K2 0
  have s1 := frozen_of_block K2 1
  have s2 := frozen_of_block K2 2
  have t0 := cell_of_block K3 0 (by simp)
  have t1 := cell_of_block K3 1 (by simp)
  have t2 := cell_of_block K3 2 (by simp)
  have u0 := frozen_of_block K3 0
  have u1 := frozen_of_block K3 1
  have u2 := frozen_of_block K3 2
  simp at p0 p1 p2 r0 r1 r2 t0 t1 t2
  have K1 := Lib.hid K1
  have K2 := Lib.hid K2
  have K3 := Lib.hid K3
  go_wp2_with fail
  refine bodyPost_ret (v := .tuple #[.agg #[.int .i64 0, .int .i64 0, .int .i64 0], .agg #[.int .i64 0, .int .i64 0, .int .i64 0], .int .i64 x]) (by simp [results, Try.results12, go_sem, r0, r1, r2, t0, t1, t2]) rfl ⟨rfl, ?_⟩
  exact ((((((((HB.out.setCell (by simp) _).setCell (by simp) _).setCell (by simp) _).setCell (by simp; omega) _).setCell (by simp; omega) _).setCell (by simp; omega) _).setCell (by simp; omega) _).setCell (by simp; omega) _).setCell (by simp; omega) _
end
end Go.Proofs.Ythmnlakgcoojhaa.L4

namespace Go.Proofs.Ythmnlakgcoojhaa.L4
open Go.RowKit

attribute [local go_sem] gw_cell gw_frozen gw_size

section
variable (aL aV : Option Addr) (m cL cV : Nat) (c : Crv) (p : Pot3) (d : Int) (w : World)

set_option maxRecDepth 100000 in
set_option maxHeartbeats 2000000 in
theorem drawF_ok (hn : c.n ≤ 1000000000000) (hm : m ≤ 1000000000000) (hL : IntsAt w aL c.n c.L) (hV : SpansAt w aV m c.A c.B) (hx : runErr m c p (fun _ => d) 1 = 0) (X : Dr3) (Y : Pot3) (eX : X = c.outAt p (fun _ => d) 0) (eY : Y = c.potAt p (fun _ => d) 1) :
    Calls Try.prog 12 #[.agg #[.slice aL c.n cL, .slice aV m cV], .agg #[.int .i64 p.v, .int .i64 p.lo, .int .i64 p.hi], .int .i64 d] w fun e w' =>
      e = .returned (.tuple #[.agg #[.int .i64 X.d, .int .i64 X.lo, .int .i64 X.hi], .agg #[.int .i64 Y.v, .int .i64 Y.lo, .int .i64 Y.hi], .int .i64 0]) ∧ Below w.heap.size w w' := by
  have HD := Lib.hid (db_of aL aV m cL cV c p d w)
  have HR := Lib.hid (fun (W : World) (hb : Below w.heap.size w W) (hI : IntsAt W (some ⟨w.heap.size + 1 + 1 + 1 + 1, 0, none⟩) 1 (fun _ => d)) => run_ok aL aV (some ⟨w.heap.size + 1 + 1 + 1 + 1, 0, none⟩) m cL cV 1 1 c p (fun _ => d) W hn hm (hL.below hb) (hV.below hb) hI hx)
  rw [← eY] at HR
  have EX := Lib.hid eX
  clear hL hV hx eX eY
  go_enter Try.func12, Try.ntmps12
  go_wp2_with fail
  generalize ((((w.alloc (.cells #[.slice aL c.n cL, .slice aV m cV] 25)).alloc (.cells #[.int .i64 p.v, .int .i64 p.lo, .int .i64 p.hi] 29)).alloc (.cells #[.int .i64 0, .int .i64 0, .int .i64 0] 39)).alloc (.cells #[.int .i64 0, .int .i64 0, .int .i64 0] 29)).alloc (.cells #[.int .i64 d] 3) = W at *
  refine (HR.out W HD.out.low (db_ints HD.out)).mono ?_
  clear HR
  rintro e V ⟨vl, rfl, hown, hb1⟩
  obtain ⟨b, cap, rfl, cap1, cap2, lb, hD⟩ := drawn_of_own' hown (by omega)
  have bb := drawn_own_base hown (by omega)
  have sz := HD.out.sz
  have ne1 : b ≠ w.heap.size + 1 := by omega
  have ne2 : b ≠ w.heap.size + 1 + 1 := by omega
  have ne3 : b ≠ w.heap.size + 1 + 1 + 1 := by omega
  clear bb sz
  obtain ⟨l0, l1, l2⟩ := hD 0 (by omega)
  rw [← EX.out] at l0 l1 l2
  simp at l0 l1 l2
  clear hD hown
  have K1 := (hb1.block _ (Array.getElem?_eq_some_iff.1 HD.out.c0).1).trans HD.out.c0
  have K2 := (hb1.block _ (Array.getElem?_eq_some_iff.1 HD.out.d0).1).trans HD.out.d0
  have K3 := (hb1.block _ (Array.getElem?_eq_some_iff.1 HD.out.e0).1).trans HD.out.e0
  have HB := Lib.hid (thru hb1 HD.out.low)
  clear hb1
  have p0 := cell_of_block K1 0 (by simp)
  have p1 := cell_of_block K1 1 (by simp)
  have p2 := cell_of_block K1 2 (by simp)
  have q0 := frozen_of_block K1 0
  have q1 := frozen_of_block K1 1
  have q2 := frozen_of_block K1 2
  have r0 := cell_of_block K2 0 (by simp)
  have r1 := cell_of_block K2 1 (by simp)
  have r2 := cell_of_block K2 2 (by simp)
  have s0 := frozen_of_block K2 0
  have s1 := frozen_of_block K2 1
  have s2 := frozen_of_block K2 2
  have t0 := cell_of_block K3 0 (by simp)
  have t1 := cell_of_block K3 1 (by simp)
  have t2 := cell_of_block K3 2 (by simp)
  have u0 := frozen_of_block K3 0
  have u1 := frozen_of_block K3 1
  have u2 := frozen_of_block K3 2
  simp at p0 p1 p2 r0 r1 r2 t0 t1 t2
  have K1 := Lib.hid K1
  have K2 := Lib.hid K2
  have K3 := Lib.hid K3
  go_wp2_with fail
  go_region
  all_goals
    go_wp2_with fail
    refine bodyPost_ret (v := .tuple #[.agg #[.int .i64 X.d, .int .i64 X.lo, .int .i64 X.hi], .agg #[.int .i64 Y.v, .int .i64 Y.lo, .int .i64 Y.hi], .int .i64 0]) (by simp [results, Try.results12, go_sem, r0, r1, r2, t0, t1, t2]) rfl ⟨rfl, ?_⟩
    exact (((((((((HB.out.setCell (by simp) _).setCell (by simp) _).setCell (by simp) _).setCell (by simp; omega) _).setCell (by simp; omega) _).setCell (by simp; omega) _).setCell (by simp; omega) _).setCell (by simp; omega) _).setCell (by simp; omega) _).drew
end
end Go.Proofs.Ythmnlakgcoojhaa.L4

namespace Go.Proofs.Ythmnlakgcoojhaa.L4
open Go.RowKit Go.Deep

attribute [local go_sem] gw_cell gw_frozen gw_size

section
variable {X : Dr3} {Y : Pot3} {V w1 : World} {t : TypeId} (hb : Below V.heap.size V w1) {a0 a1 a2 b0 b1 b2 : Value}
include hb
variable (X Y t) in
end
end Go.Proofs.Ythmnlakgcoojhaa.L4
