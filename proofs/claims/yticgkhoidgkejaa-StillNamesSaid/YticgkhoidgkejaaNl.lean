/- Pairs of contracts: what the program and the reference return is the same. No conditions beyond each theorem's own. -/
import Derived.Test.YticgkhoidgkejaaNk
import Derived.Test.YticgkhoidgkejaaGj
import Derived.Test.YticgkhoidgkejaaGh
set_option linter.unusedVariables false
set_option linter.unusedSimpArgs false
set_option linter.unusedSectionVars false
set_option linter.constructorNameAsVariable false
namespace Go.Proofs.Yticgkhoidgkejaa
open Go.RowKit

attribute [local go_sem] gw_cell gw_frozen gw_size

set_option maxRecDepth 100000 in
set_option maxHeartbeats 2000000 in
theorem vapourP_err (aL aV : Option Addr) (n m cL cV : Nat) (L A B : Nat → Int) (lo hi : Int) (w : World) (hn : n ≤ 1000000000000) (hm : m ≤ 1000000000000) (hL : IntsAt w aL n L) (hV : SpansAt w aV m A B) (h : ¬ (curveB n m L A B = true ∧ spanB lo hi 0 10000 = true)) :
    Calls Try.prog 5 #[.agg #[.slice aL n cL, .slice aV m cV], .agg #[.int .i64 lo, .int .i64 hi]] w fun e w' => e = .returned (.tuple #[.agg #[.int .i64 0, .int .i64 0], .int .i64 1]) ∧ Below w.heap.size w w' := by
  obtain ⟨W2, hW2⟩ : ∃ W2, ((w.alloc (.cells #[.slice aL n cL, .slice aV m cV] 25)).alloc (.cells #[.int .i64 lo, .int .i64 hi] 27)).alloc (.cells #[.int .i64 0, .int .i64 0] 27) = W2 := ⟨_, rfl⟩
  have low : Below w.heap.size w W2 := by rw [← hW2]; exact (((Below.refl _ w).alloc (Nat.le_refl _) _).alloc (by simp) _).alloc (by simp; omega) _
  have c0 : W2.cell? ⟨w.heap.size, 0, none⟩ = some (.slice aL n cL) := by rw [← hW2]; simp [go_sem]
  have c1 : W2.cell? ⟨w.heap.size, 1, none⟩ = some (.slice aV m cV) := by rw [← hW2]; simp [go_sem]
  have p0 : W2.cell? ⟨w.heap.size + 1, 0, none⟩ = some (.int .i64 lo) := by rw [← hW2]; simp [go_sem]
  have p1 : W2.cell? ⟨w.heap.size + 1, 1, none⟩ = some (.int .i64 hi) := by rw [← hW2]; simp [go_sem]
  have q0 : W2.cell? ⟨w.heap.size + 1 + 1, 0, none⟩ = some (.int .i64 0) := by rw [← hW2]; simp [go_sem]
  have q1 : W2.cell? ⟨w.heap.size + 1 + 1, 1, none⟩ = some (.int .i64 0) := by rw [← hW2]; simp [go_sem]
  have q2 : W2.frozen? ⟨w.heap.size + 1 + 1, 0, none⟩ = false := by rw [← hW2]; simp [go_sem]
  have q3 : W2.frozen? ⟨w.heap.size + 1 + 1, 1, none⟩ = false := by rw [← hW2]; simp [go_sem]
  have s0 : w.heap.size < W2.heap.size := by rw [← hW2]; simp; omega
  have s1 : w.heap.size + 1 < W2.heap.size := by rw [← hW2]; simp
  have s2 : w.heap.size + 1 + 1 < W2.heap.size := by rw [← hW2]; simp
  have HL := Lib.hid (hL.below low)
  have HV := Lib.hid (hV.below low)
  have HW2 := Lib.hid hW2
  have LOW := Lib.hid low
  clear hW2 hL hV low
  cases hc : curveB n m L A B with
  | false =>
    have H1 := Lib.hid hc; clear hc h
    go_enter Try.func5, Try.ntmps5
    go_wp2_with fail
    rw [HW2.out]
    refine (Calls.grown (isCurve_b aL aV n m cL cV L A B W2 hn hm HL.out HV.out H1.out)).mono ?_
    rintro e w1 ⟨rfl, y, rfl⟩
    go_wp2_with fail
    refine bodyPost_ret (v := .tuple #[.agg #[.int .i64 0, .int .i64 0], .int .i64 1]) (by simp [results, Try.results5, go_sem, q0, q1, s2]) rfl ⟨rfl, ?_⟩
    exact ((LOW.out.gw y).setCell (by simp <;> omega) _).setCell (by simp <;> omega) _
  | true =>
    have H1 := Lib.hid hc
    cases hs : spanB lo hi 0 10000 with
    | true => exact absurd ⟨hc, hs⟩ h
    | false =>
      have H2 := Lib.hid hs; clear hs hc h
      go_enter Try.func5, Try.ntmps5
      go_wp2_with fail
      rw [HW2.out]
      refine (Calls.grown (isCurve_b aL aV n m cL cV L A B W2 hn hm HL.out HV.out H1.out)).mono ?_
      rintro e w1 ⟨rfl, y0, rfl⟩
      go_wp2_with fail
      refine (Calls.gw_of (isSpan_b _ _ _ _ _ H2.out)).mono ?_
      rintro e w1 ⟨rfl, y, rfl⟩
      go_wp2_with fail
      refine bodyPost_ret (v := .tuple #[.agg #[.int .i64 0, .int .i64 0], .int .i64 1]) (by simp [results, Try.results5, go_sem, q0, q1, s2]) rfl ⟨rfl, ?_⟩
      exact ((LOW.out.gw y).setCell (by simp <;> omega) _).setCell (by simp <;> omega) _

/-- a curve's lists are there -/
structure CurIn (w : World) (aL aV : Option Addr) (n m : Nat) (L A B : Nat → Int) : Prop where
  ls : IntsAt w aL n L
  vs : SpansAt w aV m A B
theorem CurIn.below {w w' : World} {aL aV : Option Addr} {n m : Nat} {L A B : Nat → Int} (h : CurIn w aL aV n m L A B) (hb : Below w.heap.size w w') : CurIn w' aL aV n m L A B := ⟨h.ls.below hb, h.vs.below hb⟩

section
variable (aL aV aM : Option Addr) (m cL cV k cM : Nat) (c : Crv) (p : Pot3) (M : Nat → Int) (lo hi d : Int) (hn : c.n ≤ 1000000000000) (hm : m ≤ 1000000000000)
include hn hm
omit hn hm in
theorem runErr_one : runErr m c p (fun _ => d) 1 = drawErr m c p d := by
  unfold runErr drawErr earlyE
  rw [if_neg (by omega : ¬ 64 < 1)]
  by_cases h : (curveB c.n m c.L c.A c.B && potB p.v p.lo p.hi) = true
  · rw [if_pos h, if_pos h, if_neg (by omega)]
    have e : c.errAt p (fun _ => d) 0 = errD p d := rfl
    by_cases h2 : errD p d = 0
    · have : c.stop p (fun _ => d) 1 = 1 := by
        unfold Crv.stop Crv.stop
        rw [if_pos ⟨rfl, by rw [e]; exact h2⟩]
      rw [if_neg (by omega), h2]
    · have : c.stop p (fun _ => d) 1 = 0 := by
        unfold Crv.stop Crv.stop
        rw [if_neg (by rw [e]; exact fun h => h2 h.2)]
      rw [this, if_pos (by omega)]; rfl
  · rw [if_neg h, if_neg h, if_pos (by omega)]
variable (hk : k ≤ 1000000000000)
include hk
omit hk hm in
end
end Go.Proofs.Yticgkhoidgkejaa
