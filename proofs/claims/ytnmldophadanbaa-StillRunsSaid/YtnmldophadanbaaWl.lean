/- Contract of still.Run. No conditions beyond each theorem's own. -/
import Derived.Test.YtnmldophadanbaaWj
import Derived.Test.YtnmldophadanbaaWk
import Derived.Test.YtnmldophadanbaaKi
import Derived.RangeFuncBox
import Derived.Maps.AppendAt
import Derived.RegionTactic
set_option linter.unusedVariables false
set_option linter.unusedSimpArgs false
set_option linter.unusedSectionVars false
set_option linter.constructorNameAsVariable false
namespace Go.Proofs.Ytnmldophadanbaa
open Go.RowKit Go.Shelf

attribute [local go_sem] Oper.semAt_some

set_option maxRecDepth 100000 in
set_option maxHeartbeats 1000000 in
theorem run_early (aL aV aM : Option Addr) (n m cL cV k cM : Nat) (L A B : Nat → Int) (v lo hi : Int) (w : World) (hn : n ≤ 1000000000000) (hm : m ≤ 1000000000000) (hk : k ≤ 1000000000000) (hL : IntsAt w aL n L) (hV : SpansAt w aV m A B)
    (x : Int) (hx : earlyE n m L A B v lo hi k = x) (h0 : (x != 0) = true) :
    Calls Try.prog 17 #[.agg #[.slice aL n cL, .slice aV m cV], .agg #[.int .i64 v, .int .i64 lo, .int .i64 hi], .slice aM k cM] w fun e w' =>
      e = .returned (.tuple #[.slice none 0 0, .agg #[.int .i64 0, .int .i64 0, .int .i64 0], .int .i64 x]) ∧ Below w.heap.size w w' := by
  have HL := Lib.hid hL; clear hL
  have HV := Lib.hid hV; clear hV
  have HX := Lib.hid hx; clear hx
  go_enter Try.func17, Try.ntmps17
  go_wp2_with fail
  have hB := (((((Below.refl _ w).alloc (Nat.le_refl _) (.cells #[.slice aL n cL, .slice aV m cV] 25)).alloc (by simp) (.cells #[.int .i64 v, .int .i64 lo, .int .i64 hi] 29)).alloc (by simp; omega) (.cells #[.slice none 0 0] 33)).alloc (by simp; omega) (.cells #[.int .i64 0, .int .i64 0, .int .i64 0] 29)).alloc (by simp; omega) (.cells #[.int .i64 0] 34)
  refine (early_any aL aV aM n m cL cV k cM L A B v lo hi _ hn hm hk (HL.out.below hB) (HV.out.below hB)).mono ?_
  rw [HX.out]
  rintro e w1 ⟨rfl, hb1⟩
  obtain ⟨z0, z1, z2, z3, z4, z5⟩ := five_blocks w (.cells #[.slice aL n cL, .slice aV m cV] 25) (.cells #[.int .i64 v, .int .i64 lo, .int .i64 hi] 29) (.cells #[.slice none 0 0] 33) (.cells #[.int .i64 0, .int .i64 0, .int .i64 0] 29) (.cells #[.int .i64 0] 34)
  have y3 := (hb1.block (w.heap.size + 2) (by rw [z0]; omega)).trans z3
  have y4 := (hb1.block (w.heap.size + 3) (by rw [z0]; omega)).trans z4
  have y5 := (hb1.block (w.heap.size + 4) (by rw [z0]; omega)).trans z5
  have b0 := cell_of_block y3 0 (by simp)
  have b1 := cell_of_block y4 0 (by simp)
  have b2 := cell_of_block y4 1 (by simp)
  have b3 := cell_of_block y4 2 (by simp)
  have b4 := cell_of_block y5 0 (by simp)
  have f0 := frozen_of_block y3 0
  have f1 := frozen_of_block y4 0
  have f2 := frozen_of_block y4 1
  have f3 := frozen_of_block y4 2
  have f4 := frozen_of_block y5 0
  simp at b0 b1 b2 b3 b4
  clear z0 z1 z2 z3 z4 z5 y3 y4 y5
  have HB := Lib.hid (hB.trans (hb1.mono hB.size)); clear hB hb1
  go_wp2_with fail
  go_region
  all_goals
    go_wp2
    refine bodyPost_ret (v := .tuple #[.slice none 0 0, .agg #[.int .i64 0, .int .i64 0, .int .i64 0], .int .i64 x]) (by simp [results, Try.results17, go_sem, b0, b1, b2, b3, b4]) rfl ⟨rfl, ?_⟩
    exact (((((HB.out.setCell (by simp; omega) _).setCell (by simp; omega) _).setCell (by simp; omega) _).setCell (by simp; omega) _).setCell (by simp; omega) _).drew
end Go.Proofs.Ytnmldophadanbaa
