/- Pairs of contracts: what the program and the reference return is the same. No conditions beyond each theorem's own. -/
import Derived.Test.YtnmldophadanbaaNk
import Derived.Test.YtnmldophadanbaaGj
import Derived.Test.YtnmldophadanbaaGh
set_option linter.unusedVariables false
set_option linter.unusedSimpArgs false
set_option linter.unusedSectionVars false
set_option linter.constructorNameAsVariable false
namespace Go.Proofs.Ytnmldophadanbaa
open Go.RowKit

attribute [local go_sem] gw_cell gw_frozen gw_size

set_option maxRecDepth 100000 in
set_option maxHeartbeats 2000000 in
theorem vapourP_err (aL aV : Option Addr) (n m cL cV : Nat) (L A B : Nat → Int) (lo hi : Int) (w : World) (hn : n ≤ 1000000000000) (hm : m ≤ 1000000000000) (hL : IntsAt w aL n L) (hV : SpansAt w aV m A B) (h : ¬ (curveB n m L A B = true ∧ spanB lo hi 0 10000 = true)) :
    Calls Try.prog 27 #[.agg #[.slice aL n cL, .slice aV m cV], .agg #[.int .i64 lo, .int .i64 hi]] w fun e w' => e = .returned (.tuple #[.agg #[.int .i64 0, .int .i64 0], .int .i64 1]) ∧ Below w.heap.size w w' := by
  obtain ⟨W2, hW2⟩ : ∃ W2, ((w.alloc (.cells #[.slice aL n cL, .slice aV m cV] 25)).alloc (.cells #[.int .i64 lo, .int .i64 hi] 27)).alloc (.cells #[.int .i64 0, .int .i64 0] 27) = W2 := ⟨_, rfl⟩
  have low : Below w.heap.size w W2 := by rw [← hW2]; exact (((Below.refl _ w).alloc (Nat.le_refl _) _).alloc (by simp) _).alloc (by simp; omega) _
  have c0 : W2.cell? ⟨w.heap.size, 0, none⟩ = some (.slice aL n cL) := by rw [← hW2]; simp [go_sem]
  have c1 : W2.cell? ⟨w.heap.size, 1, none⟩ = some (.slice aV m cV) := by rw [← hW2]; simp [go_sem]
  have p0 : W2.cell? ⟨w.heap.size + 1, 0, none⟩ = some (.int .i64 lo) := by rw [← hW2]; simp [go_sem]
  have p1 : W2.cell? ⟨w.heap.size + 1, 1, none⟩ = some (.int .i64 hi) := by rw [← hW2]; simp [go_sem]
  have q0 : W2.cell? ⟨w.heap.size + 1 + 1, 0, none⟩ = some (.int .i64 0) := by rw [← hW2]; simp [go_sem]
  have q1 : W2.cell? ⟨w.heap.size + 1 + 1, 1, none⟩ = some (.int .i64 0) := by rw [← hW2]; simp [go_sem]
  have q2 : W2.frozen? ⟨w.heap.size + 1 + 1, 0, none⟩ = false := by rw [← hW2]; simp [go_sem]
  have q3 : W2.frozen? ⟨w.heap.size + 1 + 1, 1, none⟩ = false := by rw [← hW2]; simp [go_sem]
  have s0 : w.heap.size < W2.heap.size := by rw [← hW2]; simp; omega
  have s1 : w.heap.size + 1 < W2.heap.size := by rw [← hW2]; simp
  have s2 : w.heap.size + 1 + 1 < W2.heap.size := by rw [← hW2]; simp
  have HL := Lib.hid (hL.below low)
  have HV := Lib.hid (hV.below low)
  have HW2 := Lib.hid hW2
  have LOW := Lib.hid low
  clear hW2 hL hV low
  cases hc : curveB n m L A B with
  | false =>
    have H1 := Lib.hid hc; clear hc h
    go_enter Try.func27, Try.ntmps27
    go_wp2_with fail
    rw [HW2.out]
    refine (Calls.grown (isCurve_b aL aV n m cL cV L A B W2 hn hm HL.out HV.out H1.out)).mono ?_
    rintro e w1 ⟨rfl, y, rfl⟩
    go_wp2_with fail
    refine bodyPost_ret (v := .tuple #[.agg #[.int .i64 0, .int .i64 0], .int .i64 1]) (by simp [results, Try.results27, go_sem, q0, q1, s2]) rfl ⟨rfl, ?_⟩
    exact ((LOW.out.gw y).setCell (by simp <;> omega) _).setCell (by simp <;> omega) _
  | true =>
    have H1 := Lib.hid hc
    cases hs : spanB lo hi 0 10000 with
    | true => exact absurd ⟨hc, hs⟩ h
    | false =>
      have H2 := Lib.hid hs; clear hs hc h
      go_enter Try.func27, Try.ntmps27
      go_wp2_with fail
      rw [HW2.out]
      refine (Calls.grown (isCurve_b aL aV n m cL cV L A B W2 hn hm HL.out HV.out H1.out)).mono ?_
      rintro e w1 ⟨rfl, y0, rfl⟩
      go_wp2_with fail
      refine (Calls.gw_of (isSpan_b _ _ _ _ _ H2.out)).mono ?_
      rintro e w1 ⟨rfl, y, rfl⟩
      go_wp2_with fail
      refine bodyPost_ret (v := .tuple #[.agg #[.int .i64 0, .int .i64 0], .int .i64 1]) (by simp [results, Try.results27, go_sem, q0, q1, s2]) rfl ⟨rfl, ?_⟩
      exact ((LOW.out.gw y).setCell (by simp <;> omega) _).setCell (by simp <;> omega) _

set_option maxRecDepth 100000 in
set_option maxHeartbeats 2000000 in
theorem vapourR_err (aL aV : Option Addr) (n m cL cV : Nat) (L A B : Nat → Int) (lo hi : Int) (w : World) (hn : n ≤ 1000000000000) (hm : m ≤ 1000000000000) (hL : IntsAt w aL n L) (hV : SpansAt w aV m A B) (h : ¬ (curveB n m L A B = true ∧ spanB lo hi 0 10000 = true)) :
    Calls Try.prog 28 #[.agg #[.slice aL n cL, .slice aV m cV], .agg #[.int .i64 lo, .int .i64 hi]] w fun e w' => e = .returned (.tuple #[.agg #[.int .i64 0, .int .i64 0], .int .i64 1]) ∧ Below w.heap.size w w' := by
  obtain ⟨W2, hW2⟩ : ∃ W2, ((w.alloc (.cells #[.slice aL n cL, .slice aV m cV] 25)).alloc (.cells #[.int .i64 lo, .int .i64 hi] 27)).alloc (.cells #[.int .i64 0, .int .i64 0] 27) = W2 := ⟨_, rfl⟩
  have low : Below w.heap.size w W2 := by rw [← hW2]; exact (((Below.refl _ w).alloc (Nat.le_refl _) _).alloc (by simp) _).alloc (by simp; omega) _
  have c0 : W2.cell? ⟨w.heap.size, 0, none⟩ = some (.slice aL n cL) := by rw [← hW2]; simp [go_sem]
  have c1 : W2.cell? ⟨w.heap.size, 1, none⟩ = some (.slice aV m cV) := by rw [← hW2]; simp [go_sem]
  have p0 : W2.cell? ⟨w.heap.size + 1, 0, none⟩ = some (.int .i64 lo) := by rw [← hW2]; simp [go_sem]
  have p1 : W2.cell? ⟨w.heap.size + 1, 1, none⟩ = some (.int .i64 hi) := by rw [← hW2]; simp [go_sem]
  have q0 : W2.cell? ⟨w.heap.size + 1 + 1, 0, none⟩ = some (.int .i64 0) := by rw [← hW2]; simp [go_sem]
  have q1 : W2.cell? ⟨w.heap.size + 1 + 1, 1, none⟩ = some (.int .i64 0) := by rw [← hW2]; simp [go_sem]
  have q2 : W2.frozen? ⟨w.heap.size + 1 + 1, 0, none⟩ = false := by rw [← hW2]; simp [go_sem]
  have q3 : W2.frozen? ⟨w.heap.size + 1 + 1, 1, none⟩ = false := by rw [← hW2]; simp [go_sem]
  have s0 : w.heap.size < W2.heap.size := by rw [← hW2]; simp; omega
  have s1 : w.heap.size + 1 < W2.heap.size := by rw [← hW2]; simp
  have s2 : w.heap.size + 1 + 1 < W2.heap.size := by rw [← hW2]; simp
  have HL := Lib.hid (hL.below low)
  have HV := Lib.hid (hV.below low)
  have HW2 := Lib.hid hW2
  have LOW := Lib.hid low
  clear hW2 hL hV low
  cases hc : curveB n m L A B with
  | false =>
    have H1 := Lib.hid hc; clear hc h
    go_enter Try.func28, Try.ntmps28
    go_wp2_with fail
    rw [HW2.out]
    refine (Calls.grown (rcurve_b aL aV n m cL cV L A B W2 hn hm HL.out HV.out H1.out)).mono ?_
    rintro e w1 ⟨rfl, y, rfl⟩
    go_wp2_with fail
    refine bodyPost_ret (v := .tuple #[.agg #[.int .i64 0, .int .i64 0], .int .i64 1]) (by simp [results, Try.results28, go_sem, q0, q1, s2]) rfl ⟨rfl, ?_⟩
    exact ((LOW.out.gw y).setCell (by simp <;> omega) _).setCell (by simp <;> omega) _
  | true =>
    have H1 := Lib.hid hc
    cases hs : spanB lo hi 0 10000 with
    | true => exact absurd ⟨hc, hs⟩ h
    | false =>
      have H2 := Lib.hid hs; clear hs hc h
      go_enter Try.func28, Try.ntmps28
      go_wp2_with fail
      rw [HW2.out]
      refine (Calls.grown (rcurve_b aL aV n m cL cV L A B W2 hn hm HL.out HV.out H1.out)).mono ?_
      rintro e w1 ⟨rfl, y0, rfl⟩
      go_wp2_with fail
      refine (Calls.gw_of (rwithin_b _ _ _ _ _ H2.out)).mono ?_
      rintro e w1 ⟨rfl, y, rfl⟩
      go_wp2_with fail
      refine bodyPost_ret (v := .tuple #[.agg #[.int .i64 0, .int .i64 0], .int .i64 1]) (by simp [results, Try.results28, go_sem, q0, q1, s2]) rfl ⟨rfl, ?_⟩
      exact ((LOW.out.gw y).setCell (by simp <;> omega) _).setCell (by simp <;> omega) _

set_option maxRecDepth 100000 in
set_option maxHeartbeats 2000000 in
theorem vapourR_ok (aL aV : Option Addr) (n m cL cV : Nat) (L A B : Nat → Int) (lo hi : Int) (w : World) (hn : n ≤ 1000000000000) (hm : m ≤ 1000000000000) (hL : IntsAt w aL n L) (hV : SpansAt w aV m A B) (hc : curveB n m L A B = true) (hs : spanB lo hi 0 10000 = true)
    (a b : Int) (HA : Hid (vapLo L A n lo = a)) (HB : Hid (vapHi L B n hi = b)) :
    Calls Try.prog 28 #[.agg #[.slice aL n cL, .slice aV m cV], .agg #[.int .i64 lo, .int .i64 hi]] w fun e w' => e = .returned (.tuple #[.agg #[.int .i64 a, .int .i64 b], .int .i64 0]) ∧ Below w.heap.size w w' := by
  obtain ⟨em, g⟩ := good_of hc
  subst em
  have rs := spanB_t.1 hs
  obtain ⟨W2, hW2⟩ : ∃ W2, ((w.alloc (.cells #[.slice aL m cL, .slice aV m cV] 25)).alloc (.cells #[.int .i64 lo, .int .i64 hi] 27)).alloc (.cells #[.int .i64 0, .int .i64 0] 27) = W2 := ⟨_, rfl⟩
  have low : Below w.heap.size w W2 := by rw [← hW2]; exact (((Below.refl _ w).alloc (Nat.le_refl _) _).alloc (by simp) _).alloc (by simp; omega) _
  have c0 : W2.cell? ⟨w.heap.size, 0, none⟩ = some (.slice aL m cL) := by rw [← hW2]; simp [go_sem]
  have c1 : W2.cell? ⟨w.heap.size, 1, none⟩ = some (.slice aV m cV) := by rw [← hW2]; simp [go_sem]
  have p0 : W2.cell? ⟨w.heap.size + 1, 0, none⟩ = some (.int .i64 lo) := by rw [← hW2]; simp [go_sem]
  have p1 : W2.cell? ⟨w.heap.size + 1, 1, none⟩ = some (.int .i64 hi) := by rw [← hW2]; simp [go_sem]
  have q0 : W2.cell? ⟨w.heap.size + 1 + 1, 0, none⟩ = some (.int .i64 0) := by rw [← hW2]; simp [go_sem]
  have q1 : W2.cell? ⟨w.heap.size + 1 + 1, 1, none⟩ = some (.int .i64 0) := by rw [← hW2]; simp [go_sem]
  have q2 : W2.frozen? ⟨w.heap.size + 1 + 1, 0, none⟩ = false := by rw [← hW2]; simp [go_sem]
  have q3 : W2.frozen? ⟨w.heap.size + 1 + 1, 1, none⟩ = false := by rw [← hW2]; simp [go_sem]
  have s0 : w.heap.size < W2.heap.size := by rw [← hW2]; simp; omega
  have s1 : w.heap.size + 1 < W2.heap.size := by rw [← hW2]; simp
  have s2 : w.heap.size + 1 + 1 < W2.heap.size := by rw [← hW2]; simp
  have HL := Lib.hid (hL.below low)
  have HV := Lib.hid (hV.below low)
  have HW2 := Lib.hid hW2
  have LOW := Lib.hid low
  clear hW2 hL hV low
  have V := Lib.hid (fun y => show Calls Try.prog 56 #[.agg #[.slice aL m cL, .slice aV m cV], .agg #[.int .i64 lo, .int .i64 hi]] (gw W2 y) (fun e w' => e = .returned (.agg #[.int .i64 a, .int .i64 b]) ∧ ∃ x', w' = gw W2 x') by
    rw [← HA.out, ← HB.out]; exact Calls.gw_of (rvapour_any aL aV m cL cV lo hi L A B _ g (HL.out.below (below_gw W2 y)) (HV.out.below (below_gw W2 y)) (by omega) (by omega) (by omega) (by omega)))
  have H1 := Lib.hid hc; clear hc
  have H2 := Lib.hid hs; clear hs
  clear g HA HB
  go_enter Try.func28, Try.ntmps28
  go_wp2_with fail
  rw [HW2.out]
  refine (Calls.grown (rcurve_b aL aV m m cL cV L A B W2 hm hm HL.out HV.out H1.out)).mono ?_
  rintro e w1 ⟨rfl, y, rfl⟩
  go_wp2_with fail
  refine (Calls.gw_of (rwithin_b _ _ _ _ _ H2.out)).mono ?_
  rintro e w1 ⟨rfl, y1, rfl⟩
  go_wp2_with fail
  refine (V.out y1).mono ?_
  clear V
  rintro e w1 ⟨rfl, y2, rfl⟩
  go_wp2_with fail
  refine bodyPost_ret (v := .tuple #[.agg #[.int .i64 a, .int .i64 b], .int .i64 0]) (by simp [results, Try.results28, go_sem, q0, q1, s2]) rfl ⟨rfl, ?_⟩
  exact ((LOW.out.gw y2).setCell (by simp <;> omega) _).setCell (by simp <;> omega) _

set_option maxHeartbeats 1000000 in
theorem checkP (aL aV : Option Addr) (n m cL cV : Nat) (L A B : Nat → Int) (w : World) (hn : n ≤ 1000000000000) (hm : m ≤ 1000000000000) (hL : IntsAt w aL n L) (hV : SpansAt w aV m A B) (x : Int) (hx : (if curveB n m L A B then 0 else 1) = x) :
    Calls Try.prog 31 #[.agg #[.slice aL n cL, .slice aV m cV]] w fun e w' => e = .returned (.int .i64 x) ∧ Below w.heap.size w w' := by
  have hB := Lib.hid (below_alloc w (.cells #[.slice aL n cL, .slice aV m cV] 25))
  have HL := Lib.hid (hL.below hB.out)
  have HV := Lib.hid (hV.below hB.out)
  clear hL hV
  cases hc : curveB n m L A B
  all_goals
    have H1 := Lib.hid hc
    rw [hc] at hx
    simp at hx
    subst hx
    clear hc
    go_enter Try.func31, Try.ntmps31
    go_wp2_with fail
    refine (Calls.grown (isCurve_b aL aV n m cL cV L A B _ hn hm HL.out HV.out H1.out)).mono ?_
    rintro e w1 ⟨rfl, y, rfl⟩
    go_wp2_with fail
    go_ret
    exact ⟨rfl, hB.out.gw y⟩

set_option maxHeartbeats 1000000 in
theorem checkR (aL aV : Option Addr) (n m cL cV : Nat) (L A B : Nat → Int) (w : World) (hn : n ≤ 1000000000000) (hm : m ≤ 1000000000000) (hL : IntsAt w aL n L) (hV : SpansAt w aV m A B) (x : Int) (hx : (if curveB n m L A B then 0 else 1) = x) :
    Calls Try.prog 32 #[.agg #[.slice aL n cL, .slice aV m cV]] w fun e w' => e = .returned (.int .i64 x) ∧ Below w.heap.size w w' := by
  have hB := Lib.hid (below_alloc w (.cells #[.slice aL n cL, .slice aV m cV] 25))
  have HL := Lib.hid (hL.below hB.out)
  have HV := Lib.hid (hV.below hB.out)
  clear hL hV
  cases hc : curveB n m L A B
  all_goals
    have H1 := Lib.hid hc
    rw [hc] at hx
    simp at hx
    subst hx
    clear hc
    go_enter Try.func32, Try.ntmps32
    go_wp2_with fail
    refine (Calls.grown (rcurve_b aL aV n m cL cV L A B _ hn hm HL.out HV.out H1.out)).mono ?_
    rintro e w1 ⟨rfl, y, rfl⟩
    go_wp2_with fail
    go_ret
    exact ⟨rfl, hB.out.gw y⟩

/-- a curve's lists are there -/
structure CurIn (w : World) (aL aV : Option Addr) (n m : Nat) (L A B : Nat → Int) : Prop where
  ls : IntsAt w aL n L
  vs : SpansAt w aV m A B
theorem CurIn.below {w w' : World} {aL aV : Option Addr} {n m : Nat} {L A B : Nat → Int} (h : CurIn w aL aV n m L A B) (hb : Below w.heap.size w w') : CurIn w' aL aV n m L A B := ⟨h.ls.below hb, h.vs.below hb⟩

section
variable (aL aV aM : Option Addr) (m cL cV k cM : Nat) (c : Crv) (p : Pot3) (M : Nat → Int) (lo hi d : Int) (hn : c.n ≤ 1000000000000) (hm : m ≤ 1000000000000)
include hn hm
theorem vapour_both : ∃ a b x : Int,
    (∀ w, CurIn w aL aV c.n m c.L c.A c.B → Calls Try.prog 27 #[.agg #[.slice aL c.n cL, .slice aV m cV], .agg #[.int .i64 lo, .int .i64 hi]] w fun e w' => e = .returned (.tuple #[.agg #[.int .i64 a, .int .i64 b], .int .i64 x]) ∧ Below w.heap.size w w') ∧
    (∀ w, CurIn w aL aV c.n m c.L c.A c.B → Calls Try.prog 28 #[.agg #[.slice aL c.n cL, .slice aV m cV], .agg #[.int .i64 lo, .int .i64 hi]] w fun e w' => e = .returned (.tuple #[.agg #[.int .i64 a, .int .i64 b], .int .i64 x]) ∧ Below w.heap.size w w') := by
  by_cases h : curveB c.n m c.L c.A c.B = true ∧ spanB lo hi 0 10000 = true
  · obtain ⟨h1, h2⟩ := h
    obtain ⟨rfl, _⟩ := good_of h1
    exact ⟨_, _, 0, fun w hc => vapourP_ok aL aV c.n cL cV c.L c.A c.B lo hi w hn hc.ls hc.vs h1 h2 _ _ (Lib.hid rfl) (Lib.hid rfl), fun w hc => vapourR_ok aL aV c.n c.n cL cV c.L c.A c.B lo hi w hn hm hc.ls hc.vs h1 h2 _ _ (Lib.hid rfl) (Lib.hid rfl)⟩
  · exact ⟨0, 0, 1, fun w hc => vapourP_err aL aV c.n m cL cV c.L c.A c.B lo hi w hn hm hc.ls hc.vs h, fun w hc => vapourR_err aL aV c.n m cL cV c.L c.A c.B lo hi w hn hm hc.ls hc.vs h⟩
theorem check_both : ∃ x : Int,
    (∀ w, CurIn w aL aV c.n m c.L c.A c.B → Calls Try.prog 31 #[.agg #[.slice aL c.n cL, .slice aV m cV]] w fun e w' => e = .returned (.int .i64 x) ∧ Below w.heap.size w w') ∧
    (∀ w, CurIn w aL aV c.n m c.L c.A c.B → Calls Try.prog 32 #[.agg #[.slice aL c.n cL, .slice aV m cV]] w fun e w' => e = .returned (.int .i64 x) ∧ Below w.heap.size w w') :=
  ⟨_, fun w hc => checkP aL aV c.n m cL cV c.L c.A c.B w hn hm hc.ls hc.vs _ rfl, fun w hc => checkR aL aV c.n m cL cV c.L c.A c.B w hn hm hc.ls hc.vs _ rfl⟩
omit hn hm in
theorem runErr_one : runErr m c p (fun _ => d) 1 = drawErr m c p d := by
  unfold runErr drawErr earlyE
  rw [if_neg (by omega : ¬ 64 < 1)]
  by_cases h : (curveB c.n m c.L c.A c.B && potB p.v p.lo p.hi) = true
  · rw [if_pos h, if_pos h, if_neg (by omega)]
    have e : c.errAt p (fun _ => d) 0 = errD p d := rfl
    by_cases h2 : errD p d = 0
    · have : c.stop p (fun _ => d) 1 = 1 := by
        unfold Crv.stop Crv.stop
        rw [if_pos ⟨rfl, by rw [e]; exact h2⟩]
      rw [if_neg (by omega), h2]
    · have : c.stop p (fun _ => d) 1 = 0 := by
        unfold Crv.stop Crv.stop
        rw [if_neg (by rw [e]; exact fun h => h2 h.2)]
      rw [this, if_pos (by omega)]; rfl
  · rw [if_neg h, if_neg h, if_pos (by omega)]
theorem draw_both : ∃ (X : Dr3) (Y : Pot3) (x : Int),
    (∀ w, CurIn w aL aV c.n m c.L c.A c.B → Calls Try.prog 24 #[.agg #[.slice aL c.n cL, .slice aV m cV], .agg #[.int .i64 p.v, .int .i64 p.lo, .int .i64 p.hi], .int .i64 d] w fun e w' => e = .returned (.tuple #[.agg #[.int .i64 X.d, .int .i64 X.lo, .int .i64 X.hi], .agg #[.int .i64 Y.v, .int .i64 Y.lo, .int .i64 Y.hi], .int .i64 x]) ∧ Below w.heap.size w w') ∧
    (∀ w, CurIn w aL aV c.n m c.L c.A c.B → Calls Try.prog 29 #[.agg #[.slice aL c.n cL, .slice aV m cV], .agg #[.int .i64 p.v, .int .i64 p.lo, .int .i64 p.hi], .int .i64 d] w fun e w' => e = .returned (.tuple #[.agg #[.int .i64 X.d, .int .i64 X.lo, .int .i64 X.hi], .agg #[.int .i64 Y.v, .int .i64 Y.lo, .int .i64 Y.hi], .int .i64 x]) ∧ Below w.heap.size w w') := by
  by_cases h : drawErr m c p d = 0
  · exact ⟨_, _, 0, fun w hc => drawF_ok aL aV m cL cV c p d w hn hm hc.ls hc.vs (by rw [runErr_one]; exact h) _ _ rfl rfl, fun w hc => rDraw_ok aL aV m cL cV c p d w hn hm hc.ls hc.vs h _ _ rfl rfl⟩
  · exact ⟨⟨0, 0, 0⟩, ⟨0, 0, 0⟩, _, fun w hc => drawF_err aL aV m cL cV c p d w hn hm hc.ls hc.vs _ (runErr_one m c p d) h, fun w hc => rDraw_err aL aV m cL cV c p d w hn hm hc.ls hc.vs _ rfl h⟩
variable (hk : k ≤ 1000000000000)
include hk
theorem rrun_err (w : World) (hc : CurIn w aL aV c.n m c.L c.A c.B) (hM : IntsAt w aM k M) (x : Int) (hx : runErr m c p M k = x) (h0 : x ≠ 0) :
    Calls Try.prog 30 #[.agg #[.slice aL c.n cL, .slice aV m cV], .agg #[.int .i64 p.v, .int .i64 p.lo, .int .i64 p.hi], .slice aM k cM] w fun e w' =>
      e = .returned (.tuple #[.slice none 0 0, .agg #[.int .i64 0, .int .i64 0, .int .i64 0], .int .i64 x]) ∧ Below w.heap.size w w' := by
  unfold runErr at hx
  split at hx
  · rename_i he
    exact rrun_early aL aV aM m cL cV k cM c p w hn hm hk hc.ls hc.vs x hx h0
  · rename_i hE
    have hE : earlyE c.n m c.L c.A c.B p.v p.lo p.hi k = 0 := Decidable.byContradiction hE
    split at hx
    · rename_i hs
      obtain ⟨k64, rfl, g, q0, q1, q2, q3⟩ := early_zero hE
      refine (rrun_main aL aV aM cL cV k cM c p M (c.stop p M k) w hn k64 (c.stop_le p M k) hc.ls hc.vs hM hE (fun j hj => c.stop_lt p M k j hj) (c.stop_bad p M k) (potAt_ok g ⟨q0, q1, q2, q3⟩)).mono ?_
      rintro e w' ⟨h1, ⟨h2, _⟩ | ⟨_, h2⟩⟩
      · omega
      · exact ⟨by rw [h2, hx], h1⟩
    · omega
omit hk hm in
theorem rrun_ok (w : World) (hc : CurIn w aL aV c.n m c.L c.A c.B) (hM : IntsAt w aM k M) (hx : runErr m c p M k = 0) :
    Calls Try.prog 30 #[.agg #[.slice aL c.n cL, .slice aV m cV], .agg #[.int .i64 p.v, .int .i64 p.lo, .int .i64 p.hi], .slice aM k cM] w fun e w' =>
      ∃ v, e = .returned (.tuple #[v, .agg #[.int .i64 (c.potAt p M k).v, .int .i64 (c.potAt p M k).lo, .int .i64 (c.potAt p M k).hi], .int .i64 0]) ∧ w'.ownsRow w.heap.size 41 3 v k (c.outs p M k) ∧ Below w.heap.size w w' := by
  obtain ⟨hE, k64, rfl, g, hp, hgo, hok⟩ := run_zero hx
  refine (rrun_main aL aV aM cL cV k cM c p M k w hn k64 (Nat.le_refl _) hc.ls hc.vs hM hE hgo (fun h => absurd h (Nat.lt_irrefl _)) hok).mono ?_
  rintro e w' ⟨h1, ⟨_, v, h2, h3⟩ | ⟨h2, _⟩⟩
  · exact ⟨v, h2, h3, h1⟩
  · omega
end
end Go.Proofs.Ytnmldophadanbaa
