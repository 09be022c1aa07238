/- HouseOwns holds: for every input the law returns true, and the arguments read as they did. No conditions. -/
import Derived.Test.YtljofnmgddfljaaRows
import Derived.Test.YtljofnmgddfljaaCf
import Derived.Test.YtljofnmgddfljaaGb
import Derived.Test.YtljofnmgddfljaaFo
import Derived.OpenShut
set_option linter.unusedVariables false
set_option linter.unusedSimpArgs false
set_option linter.unusedSectionVars false
set_option linter.constructorNameAsVariable false
namespace Go.Proofs.Ytljofnmgddfljaa
open Go.ChangeShapes Go.WideShapes Go.ChangeAt Go.RowKit

set_option maxRecDepth 100000 in
theorem owns_lifted (os : Os) (started : os.Started) (H : Type) (enc : TypeId × Value → H) :
    ReturnsInHanded {} Try.checked os 13 .any (Rows.houseOwnsSpec.pre6 enc Try.prog Try.f13 Rows.houseOwnsRow.domain false) (Rows.houseOwnsSpec.post enc Try.prog Try.f13 false true false false) := by
  refine returnsInHanded_of_change (C := Try.checked) own started (by kernel_rfl) Try.func13
    (ChangeSpec.witness6 (enc := enc) (C := Try.checked) false ⟨#[], #[.agg #[.int .i64 0, .slice none 0 0, .slice none 0 0], .agg #[.int .i64 0, .int .i64 0, .int .i64 0, .int .i64 0, .int .i64 0], .slice none 0 0, .slice none 0 0, .int .i64 0], []⟩ 8 (by kernel_rfl) (by kernel_rfl) (by kernel_rfl) (by kernel_rfl)) ?_
  intro W base args ds gs before hval0 hW _ _
  have hval : ∀ (j : Nat) t v, Try.f13.params[j]? = some t → args[j]? = some v → Value.okWide Try.prog W .any base t v := hval0
  have hW' := hW
  obtain ⟨p, q, hA0, hV, rfl, _, _⟩ := hW
  have hA : DataW.TrodAll enc Try.prog W 0 (fun _ => true) true Try.f13.params.toList args.toList ds p := hA0
  rw [Try.params13] at hA hval
  obtain ⟨v0, vs0, d0, ds0, p0, q0, hargs0, rfl, rfl, h0, r0⟩ := trodAll_cons hA
  obtain ⟨v1, vs1, d1, ds1, p1, q1, hargs1, rfl, rfl, h1, r1⟩ := trodAll_cons r0
  obtain ⟨v2, vs2, d2, ds2, p2, q2, hargs2, rfl, rfl, h2, r2⟩ := trodAll_cons r1
  obtain ⟨v3, vs3, d3, ds3, p3, q3, hargs3, rfl, rfl, h3, r3⟩ := trodAll_cons r2
  obtain ⟨v4, vs4, d4, ds4, p4, q4, hargs4, rfl, rfl, h4, r4⟩ := trodAll_cons r3
  obtain ⟨rfl, rfl, rfl⟩ := trodAll_nil r4
  obtain rfl : args = #[v0, v1, v2, v3, v4] := by cases args; simp_all
  obtain ⟨C, rfl, hC, inD, lA, lW, llA, llW⟩ := rd_clim Try.underlying3 (by kernel_rfl) Try.underlying26 (by kernel_rfl) ⟨rfl, rfl⟩ ⟨rfl, rfl⟩ Try.underlying81 (by kernel_rfl) Try.underlying22 (by kernel_rfl) Try.underlying24 (by kernel_rfl) ⟨rfl, rfl⟩ ⟨rfl, rfl⟩ ⟨rfl, rfl⟩ (hval 0 _ _ rfl rfl) h0
  obtain ⟨xa, xb, xc, xd, xe, rfl, inxa, inxb, inxc⟩ := rd_iss Try.underlying3 (by kernel_rfl) Try.underlying26 (by kernel_rfl) ⟨rfl, rfl⟩ ⟨rfl, rfl⟩ Try.underlying28 (by kernel_rfl) ⟨rfl, rfl⟩ ⟨rfl, rfl⟩ ⟨rfl, rfl⟩ (hval 1 _ _ rfl rfl) h1
  obtain ⟨aS, k, cS, F, G, rfl, leS, mxS, hS, rS⟩ := rd_spans Try.underlying3 (by kernel_rfl) Try.underlying53 (by kernel_rfl) ⟨rfl, rfl⟩ ⟨rfl, rfl⟩ Try.underlying29 (hval 2 _ _ rfl rfl) h2
  obtain ⟨aL, n, cL, M, rfl, leL, mxL, hL⟩ := rd_regs Try.underlying3 (by kernel_rfl) Try.underlying26 (by kernel_rfl) ⟨rfl, rfl⟩ ⟨rfl, rfl⟩ Try.underlying44 (by kernel_rfl) ⟨rfl, rfl⟩ ⟨rfl, rfl⟩ ⟨rfl, rfl⟩ Try.underlying66 (hval 3 _ _ rfl rfl) h3
  obtain ⟨day, rfl, inday⟩ := rd_int Try.underlying3 (hval 4 _ _ rfl rfl) h4
  refine (owns_any C ⟨xa, xb, xc, xd, xe⟩ aS aL k cS n cL F G M day W hC ⟨by unfold maxLen at lA; omega, by unfold maxLen at lW; omega, fun i hi => by have := llA i hi; unfold maxLen at this; omega, fun i hi => by have := llW i hi; unfold maxLen at this; omega, by unfold maxLen at mxS; omega⟩ hS hL (by unfold maxLen at mxL; omega)).mono fun e W' ⟨he, hb⟩ => ?_
  subst he
  exact ⟨_, rfl, law_post hW' (by kernel_rfl) rfl (by rw [Try.params13]; decide +kernel) rfl hb⟩

theorem owns_holds : Rows.HouseOwnsSaid :=
  OpenClaim.holds_of_wide 13 Try.f13 rfl rfl rfl rfl rfl rfl rfl ⟨rfl, rfl, rfl, rfl, rfl⟩ rfl rfl rfl rfl rfl (by kernel_rfl) Try.func13 (by kernel_rfl)
    (of_decide_eq_true (by kernel_rfl)) (by unfold Func.isWrapper; first | (rw [if_pos (by decide +kernel)]; kernel_rfl) | (rw [if_neg (by decide +kernel)]; exact ⟨rfl, rfl⟩))
    (fun os started H enc _ => owns_lifted os started H enc)

#print axioms owns_holds
end Go.Proofs.Ytljofnmgddfljaa
