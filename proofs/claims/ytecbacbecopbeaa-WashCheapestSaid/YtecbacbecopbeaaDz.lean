/- WashCheapest holds: for every input the law returns true, and the arguments read as they did. No conditions. -/
import Derived.Test.YtecbacbecopbeaaRows
import Derived.Test.YtecbacbecopbeaaRa
import Derived.Test.YtecbacbecopbeaaDy
import Derived.OpenShut
set_option linter.unusedVariables false
set_option linter.unusedSimpArgs false
set_option linter.unusedSectionVars false
set_option linter.constructorNameAsVariable false
namespace Go.Proofs.Ytecbacbecopbeaa
open Go.ChangeShapes Go.WideShapes Go.ChangeAt Go.RowKit
theorem cheap_all (y : Yst) (v : Vat) (aS : Option Addr) (k cS : Nat) (F G : Nat → Int) (n ll lh : Int) (aB : Option Addr) (nB cB : Nat) (U : Nat → Int) (w : World) (hI : y.In w) (hf : y.Fits) (hS : SpansAt w aS k F G) (hk : k ≤ 9223372036854775807)
    (hU : NumsAt .u8 w aB nB U) (hu : ∀ i, i < nB → 0 ≤ U i ∧ U i ≤ 255) (hm : nB ≤ 9223372036854775807) :
    Calls Try.prog 13 #[y.val, v.val, .slice aS k cS, .int .i64 n, .agg #[.int .i64 ll, .int .i64 lh], .slice aB nB cB] w (True1 w) :=
  cheapest_any ⟨y, k, F, G, ll, lh⟩ v aS cS n aB nB cB U w hI hf hS hk hU hu hm

set_option maxRecDepth 100000 in
theorem cheapest_lifted (os : Os) (started : os.Started) (H : Type) (enc : TypeId × Value → H) :
    ReturnsInHanded {} Try.checked os 13 .any (Rows.washCheapestSpec.pre6 enc Try.prog Try.f13 Rows.washCheapestRow.domain false) (Rows.washCheapestSpec.post enc Try.prog Try.f13 false true false false) := by
  refine returnsInHanded_of_change (C := Try.checked) own started (by kernel_rfl) Try.func13
    (ChangeSpec.witness6 (enc := enc) (C := Try.checked) false ⟨#[], #[.agg #[.slice none 0 0, .slice none 0 0, .int .i64 0, .int .i64 0, .int .i64 0, .int .i64 0, .int .i64 0, .int .i64 0], .agg #[.int .i64 0, .int .i64 0, .int .i64 0, .int .i64 0, .int .i64 0, .int .i64 0, .int .i64 0, .int .i64 0, .int .i64 0, .int .i64 0, .int .i64 0, .int .i64 0, .int .i64 0], .slice none 0 0, .int .i64 0, .agg #[.int .i64 0, .int .i64 0], .slice none 0 0], []⟩ 8 (by kernel_rfl) (by kernel_rfl) (by kernel_rfl) (by kernel_rfl)) ?_
  intro W base args ds gs before hval0 hW _ _
  have hval : ∀ (j : Nat) t v, Try.f13.params[j]? = some t → args[j]? = some v → Value.okWide Try.prog W .any base t v := hval0
  have hW' := hW
  obtain ⟨p, q, hA0, hV, rfl, _, _⟩ := hW
  have hA : DataW.TrodAll enc Try.prog W 0 (fun _ => true) true Try.f13.params.toList args.toList ds p := hA0
  rw [Try.params13] at hA hval
  obtain ⟨v0, vs0, d0, ds0, p0, q0, hargs0, rfl, rfl, h0, r0⟩ := trodAll_cons hA
  obtain ⟨v1, vs1, d1, ds1, p1, q1, hargs1, rfl, rfl, h1, r1⟩ := trodAll_cons r0
  obtain ⟨v2, vs2, d2, ds2, p2, q2, hargs2, rfl, rfl, h2, r2⟩ := trodAll_cons r1
  obtain ⟨v3, vs3, d3, ds3, p3, q3, hargs3, rfl, rfl, h3, r3⟩ := trodAll_cons r2
  obtain ⟨v4, vs4, d4, ds4, p4, q4, hargs4, rfl, rfl, h4, r4⟩ := trodAll_cons r3
  obtain ⟨v5, vs5, d5, ds5, p5, q5, hargs5, rfl, rfl, h5, r5⟩ := trodAll_cons r4
  obtain ⟨rfl, rfl, rfl⟩ := trodAll_nil r5
  obtain rfl : args = #[v0, v1, v2, v3, v4, v5] := by cases args; simp_all
  obtain ⟨y, rfl, hY, yT, yR, yC⟩ := rd_yeast Try.underlying3 (by kernel_rfl) Try.underlying23 (by kernel_rfl) ⟨rfl, rfl⟩ ⟨rfl, rfl⟩ Try.underlying33 (by kernel_rfl) Try.underlying34 (by kernel_rfl) Try.underlying36 (by kernel_rfl) ⟨rfl, rfl⟩ ⟨rfl, rfl⟩ ⟨rfl, rfl⟩ ⟨rfl, rfl⟩ ⟨rfl, rfl⟩ (hval 0 _ _ rfl rfl) h0
  obtain ⟨v, rfl⟩ := rd_vat Try.underlying3 (by kernel_rfl) Try.underlying23 (by kernel_rfl) ⟨rfl, rfl⟩ ⟨rfl, rfl⟩ Try.underlying38 (by kernel_rfl) ⟨rfl, rfl⟩ ⟨rfl, rfl⟩ ⟨rfl, rfl⟩ ⟨rfl, rfl⟩ ⟨rfl, rfl⟩ ⟨rfl, rfl⟩ ⟨rfl, rfl⟩ (hval 1 _ _ rfl rfl) h1
  obtain ⟨aS, k, cS, F, G, rfl, leF, mxF, hF, rF⟩ := rd_spans Try.underlying3 (by kernel_rfl) Try.underlying23 (by kernel_rfl) ⟨rfl, rfl⟩ ⟨rfl, rfl⟩ Try.underlying34 (hval 2 _ _ rfl rfl) h2
  obtain ⟨n, rfl, inn⟩ := rd_int Try.underlying3 (hval 3 _ _ rfl rfl) h3
  obtain ⟨ll, lh, rfl, inll, inlh⟩ := rd_span Try.underlying3 (by kernel_rfl) Try.underlying23 (by kernel_rfl) ⟨rfl, rfl⟩ ⟨rfl, rfl⟩ (hval 4 _ _ rfl rfl) h4
  obtain ⟨aB, nB, cB, U, rfl, leU, mxU, hU, rU⟩ := rd_nums Try.underlying76 Try.underlying5 (by kernel_rfl) (hval 5 _ _ rfl rfl) h5
  refine (cheap_all y v aS k cS F G n ll lh aB nB cB U W hY ⟨by unfold maxLen at yT; omega, by unfold maxLen at yC; omega, yR, by unfold maxLen at yC; omega⟩ hF (by unfold maxLen at mxF; omega) hU (fun i hi => inU8_of (rU i hi)) (by unfold maxLen at mxU; omega)).mono fun e W' ⟨he, hb⟩ => ?_
  subst he
  exact ⟨_, rfl, law_post hW' (by kernel_rfl) rfl (by rw [Try.params13]; decide +kernel) rfl hb⟩

theorem cheapest_holds : Rows.WashCheapestSaid :=
  OpenClaim.holds_of_wide 13 Try.f13 rfl rfl rfl rfl rfl rfl rfl ⟨rfl, rfl, rfl, rfl, rfl⟩ rfl rfl rfl rfl rfl (by kernel_rfl) Try.func13 (by kernel_rfl)
    (of_decide_eq_true (by kernel_rfl)) (by unfold Func.isWrapper; first | (rw [if_pos (by decide +kernel)]; kernel_rfl) | (rw [if_neg (by decide +kernel)]; exact ⟨rfl, rfl⟩))
    (fun os started H enc _ => cheapest_lifted os started H enc)

#print axioms cheapest_holds
end Go.Proofs.Ytecbacbecopbeaa
