/- StillColumn: the walk of the law: short ways. No conditions beyond each theorem's own. -/
import Derived.Test.YtnmldophadanbaaKp
import Derived.Test.YtnmldophadanbaaLb
set_option linter.unusedVariables false
set_option linter.unusedSimpArgs false
set_option linter.unusedSectionVars false
set_option linter.constructorNameAsVariable false
namespace Go.Proofs.Ytnmldophadanbaa
open Go.RowKit

attribute [local go_sem] gw_cell gw_frozen gw_size


set_option maxRecDepth 100000 in
set_option maxHeartbeats 2000000 in
theorem column_short (aL aV aY : Option Addr) (n m cL cV ny cY : Nat) (s t mo : Int) (w : World) (hn : n ≤ 9223372036854775807) (hm : m ≤ 9223372036854775807) (hny : ny ≤ 9223372036854775807) (h : longB n m 0 = true ∨ (longB n m 0 = false ∧ ny = 0)) :
    Calls Try.prog 10 #[.agg #[.slice aL n cL, .slice aV m cV], .int .i64 s, .int .i64 t, .int .i64 mo, .slice aY ny cY] w (True1 w) := by
  rcases h with h | ⟨h, rfl⟩
  all_goals
    have H := Lib.hid h; clear h
    go_enter Try.func10, Try.ntmps10
    go_wp2_with fail
    refine (long_b aL aV none n m 0 cL cV 0 _ hn hm (by omega) H.out).mono ?_
    rintro e w1 ⟨rfl, x, rfl⟩
    go_wp2_with fail
    refine (alive_any _).mono ?_
    rintro e w1 ⟨rfl, hb⟩
    have HB := Lib.hid (thru hb (((Below.refl _ w).alloc (Nat.le_refl _) _).gw x)); clear hb
    go_wp2_with fail
    go_ret
    exact ⟨rfl, HB.out⟩

set_option maxRecDepth 100000 in
set_option maxHeartbeats 2000000 in
theorem column_err (aL aV aY : Option Addr) (n m cL cV ny cY : Nat) (L A B : Nat → Int) (s t mo : Int) (w : World) (hny : ny ≤ 9223372036854775807) (h : longB n m 0 = false) (h0 : 0 < ny) (hL : IntsAt w aL n L) (hV : SpansAt w aV m A B) (x : Int) (hE : platesErr n m L A B s t = x) (hx : x ≠ 0) :
    Calls Try.prog 10 #[.agg #[.slice aL n cL, .slice aV m cV], .int .i64 s, .int .i64 t, .int .i64 mo, .slice aY ny cY] w (True1 w) := by
  obtain ⟨k1, k2, _⟩ := longB_f h
  have n2 : ((ny : Int) == 0) = false := by simp; omega
  have hc : x = 1 ∨ x = 2 := by
    unfold platesErr at hE
    split at hE
    · split at hE
      · exact absurd hE.symm hx
      · exact .inr hE.symm
    · exact .inl hE.symm
  have H := Lib.hid h; clear h
  obtain ⟨W2, hW2⟩ : ∃ W2, w.alloc (.cells #[.slice aL n cL, .slice aV m cV] 25) = W2 := ⟨_, rfl⟩
  have c0 : W2.cell? ⟨w.heap.size, 0, none⟩ = some (.slice aL n cL) := by rw [← hW2]; simp [go_sem]
  have c1 : W2.cell? ⟨w.heap.size, 1, none⟩ = some (.slice aV m cV) := by rw [← hW2]; simp [go_sem]
  have s0 : w.heap.size < W2.heap.size := by rw [← hW2]; simp
  have low : Below w.heap.size w W2 := by rw [← hW2]; exact below_alloc _ _
  have P := Lib.hid (fun y => Calls.gw_of (plates_err aL aV n m cL cV L A B s t (gw W2 y) (by omega) (by omega) ((hL.below low).below (below_gw W2 y)) ((hV.below low).below (below_gw W2 y)) x hE hx))
  have LOW := Lib.hid low; clear low hL hV hE hx
  have HW2 := Lib.hid hW2; clear hW2
  rcases hc with rfl | rfl
  all_goals
    go_enter Try.func10, Try.ntmps10
    go_wp2_with fail
    rw [HW2.out]
    refine (long_b aL aV none n m 0 cL cV 0 _ (by omega) (by omega) (by omega) H.out).mono ?_
    rintro e w1 ⟨rfl, y, rfl⟩
    go_wp2_with fail
    refine (P.out y).mono ?_
    clear P
    rintro e w1 ⟨rfl, z, rfl⟩
    go_wp2_with fail
    refine (alive_any _).mono ?_
    rintro e w1 ⟨rfl, hb⟩
    have HB := Lib.hid (thru hb (LOW.out.gw z)); clear hb
    go_wp2_with fail
    go_ret
    exact ⟨rfl, HB.out⟩
end Go.Proofs.Ytnmldophadanbaa
