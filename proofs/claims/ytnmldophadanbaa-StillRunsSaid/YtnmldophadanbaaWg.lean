/- Contract of still.vapour. No conditions beyond each theorem's own. -/
import Derived.Test.YtnmldophadanbaaWf
import Derived.Test.YtnmldophadanbaaKe
set_option linter.unusedVariables false
set_option linter.unusedSimpArgs false
set_option linter.unusedSectionVars false
set_option linter.constructorNameAsVariable false
namespace Go.Proofs.Ytnmldophadanbaa
open Go.RowKit

attribute [local go_sem] gw_cell gw_frozen gw_size

set_option maxRecDepth 100000 in
set_option maxHeartbeats 1000000 in
theorem vapour_any (bc b off bv offv n cL cV : Nat) (lo hi : Int) (L A B : Nat → Int) (w : World) (g : Good n L A B) (hC : CurveAt w bc b off bv offv n cL cV L A B)
    (h0 : 0 ≤ lo) (h1 : lo ≤ 10000) (h2 : 0 ≤ hi) (h3 : hi ≤ 10000) :
    Calls Try.prog 55 #[.pointer (some ⟨bc, 0, none⟩), .agg #[.int .i64 lo, .int .i64 hi]] w fun e w' => e = .returned (.agg #[.int .i64 (vapLo L A n lo), .int .i64 (vapHi L B n hi)]) ∧ Below w.heap.size w w' := by
  have d1 := g.den h0 h1
  have d2 := g.den h2 h3
  have m1 := lineNum_nonneg g (fun i hi => ⟨(g.range i hi).2.2.1, (g.range i hi).2.2.2.1⟩) h0 h1 (E := A)
  have m2 := lineNum_nonneg g (fun i hi => ⟨(g.range i hi).2.2.2.2.1, (g.range i hi).2.2.2.2.2⟩) h2 h3 (E := B)
  have nz : ¬ lineDen L n lo = 0 := by omega
  have HC := Lib.hid hC; clear hC
  have HL := Lib.hid (show vapLo L A n lo = lineNum L A n lo / lineDen L n lo from rfl)
  have HH := Lib.hid (show vapHi L B n hi = upI (lineNum L B n hi) (lineDen L n hi) from rfl)
  go_enter Try.func55, Try.ntmps55
  go_wp2_with fail
  have hC1 := HC.out.below (((Below.refl _ w).alloc (Nat.le_refl _) (.cells #[.int .i64 lo, .int .i64 hi] 27)).alloc (by simp) (.cells #[.int .i64 0, .int .i64 0] 27))
  refine (Calls.grown (line_lo bc b off bv offv n cL cV lo L A B _ g h0 h1 hC1.cb hC1.pts.lb hC1.pts.vb hC1.c0 hC1.c1 hC1.pts.ls hC1.pts.vs)).mono ?_
  have HC1 := Lib.hid hC1; clear hC1
  rintro e w1 ⟨rfl, x, rfl⟩
  go_wp2_with fail
  have hC2 := HC1.out.gw x
  refine (Calls.gw_of (line_hi bc b off bv offv n cL cV hi L A B _ g h2 h3 hC2.cb hC2.pts.lb hC2.pts.vb hC2.c0 hC2.c1 hC2.pts.ls hC2.pts.vs)).mono ?_
  clear hC2
  rintro e w1 ⟨rfl, y, rfl⟩
  go_wp2_with fail
  refine wp_region_gw_tail2 7 (by kernel_rfl) (by kernel_rfl) ?_
  simp only [List.take_succ_cons, List.take_zero]
  repeat (go_big_quiet_step (((go_at_call 51; exact Calls.gw_of_same ((up_any _ _ _ (by omega) (by omega) (by omega) (by omega)))))))
  refine wpQuiet_nil ?_
  rintro _ ⟨z, rfl⟩
  simp only [List.drop_succ_cons, List.drop_zero]
  go_wp2
  rw [HL.out, HH.out]
  refine bodyPost_ret (v := .agg #[.int .i64 (lineNum L A n lo / lineDen L n lo), .int .i64 (upI (lineNum L B n hi) (lineDen L n hi))]) (by simp [results, Try.results55, go_sem]) rfl ⟨rfl, ?_⟩
  exact ((((((Below.refl _ w).alloc (Nat.le_refl _) _).alloc (by simp) _).gw z).setCell (by simp) _).setCell (by simp) _)
end Go.Proofs.Ytnmldophadanbaa
