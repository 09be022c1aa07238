/- HouseFound holds: for every input the law returns true, and the arguments read as they did. No conditions. -/
import Derived.Test.YtljofnmgddfljaaRows
import Derived.Test.YtljofnmgddfljaaCf
import Derived.Test.YtljofnmgddfljaaFh
import Derived.Test.YtljofnmgddfljaaFi
import Derived.OpenShut
set_option linter.unusedVariables false
set_option linter.unusedSimpArgs false
set_option linter.unusedSectionVars false
set_option linter.constructorNameAsVariable false
namespace Go.Proofs.Ytljofnmgddfljaa
open Go.ChangeShapes Go.WideShapes Go.ChangeAt Go.RowKit
theorem found_any (C : Clim) (x : Cont) (aS aB : Option Addr) (k cS nb cB : Nat) (F G U : Nat → Int) (day off tk ad : Int) (w : World) (hC : C.In w) (hl : Lens C k) (hS : SpansAt w aS k F G) (hU : NumsAt .u32 w aB nb U) (hr : ∀ i, i < nb → 0 ≤ U i ∧ U i ≤ 4294967295) (hn2 : nb ≤ 9223372036854775807)
    (o0 : 0 ≤ off) (o1 : off ≤ 65535) (k0 : 0 ≤ tk) (k1 : tk ≤ 65535) (d0 : 0 ≤ ad) (d1 : ad ≤ 65535) :
    Calls Try.prog 5 #[.agg #[.int .i64 C.days, .slice C.aA C.nA C.cA, .slice C.aW C.nW C.cW], x.val, .slice aS k cS, .int .i64 day, .slice aB nb cB, .int .u16 off, .int .u16 tk, .int .u16 ad] w (True1 w) := by
  by_cases g6 : x.day < F 0
  · exact found_a C x aS aB k cS nb cB F G U day off tk ad w hC hl hS hU hr hn2 o0 o1 k0 k1 d0 d1 g6
  · exact found_b C x aS aB k cS nb cB F G U day off tk ad w hC hl hS hU hr hn2 o0 o1 k0 k1 d0 d1 g6

set_option maxRecDepth 100000 in
theorem found_lifted (os : Os) (started : os.Started) (H : Type) (enc : TypeId × Value → H) :
    ReturnsInHanded {} Try.checked os 5 .any (Rows.houseFoundSpec.pre6 enc Try.prog Try.f5 Rows.houseFoundRow.domain false) (Rows.houseFoundSpec.post enc Try.prog Try.f5 false true false false) := by
  refine returnsInHanded_of_change (C := Try.checked) own started (by kernel_rfl) Try.func5
    (ChangeSpec.witness6 (enc := enc) (C := Try.checked) false ⟨#[], #[.agg #[.int .i64 0, .slice none 0 0, .slice none 0 0], .agg #[.int .i64 0, .int .i64 0, .int .i64 0, .int .i64 0, .int .i64 0], .slice none 0 0, .int .i64 0, .slice none 0 0, .int .u16 0, .int .u16 0, .int .u16 0], []⟩ 8 (by kernel_rfl) (by kernel_rfl) (by kernel_rfl) (by kernel_rfl)) ?_
  intro W base args ds gs before hval0 hW _ _
  have hval : ∀ (j : Nat) t v, Try.f5.params[j]? = some t → args[j]? = some v → Value.okWide Try.prog W .any base t v := hval0
  have hW' := hW
  obtain ⟨p, q, hA0, hV, rfl, _, _⟩ := hW
  have hA : DataW.TrodAll enc Try.prog W 0 (fun _ => true) true Try.f5.params.toList args.toList ds p := hA0
  rw [Try.params5] at hA hval
  obtain ⟨v0, vs0, d0, ds0, p0, q0, hargs0, rfl, rfl, h0, r0⟩ := trodAll_cons hA
  obtain ⟨v1, vs1, d1, ds1, p1, q1, hargs1, rfl, rfl, h1, r1⟩ := trodAll_cons r0
  obtain ⟨v2, vs2, d2, ds2, p2, q2, hargs2, rfl, rfl, h2, r2⟩ := trodAll_cons r1
  obtain ⟨v3, vs3, d3, ds3, p3, q3, hargs3, rfl, rfl, h3, r3⟩ := trodAll_cons r2
  obtain ⟨v4, vs4, d4, ds4, p4, q4, hargs4, rfl, rfl, h4, r4⟩ := trodAll_cons r3
  obtain ⟨v5, vs5, d5, ds5, p5, q5, hargs5, rfl, rfl, h5, r5⟩ := trodAll_cons r4
  obtain ⟨v6, vs6, d6, ds6, p6, q6, hargs6, rfl, rfl, h6, r6⟩ := trodAll_cons r5
  obtain ⟨v7, vs7, d7, ds7, p7, q7, hargs7, rfl, rfl, h7, r7⟩ := trodAll_cons r6
  obtain ⟨rfl, rfl, rfl⟩ := trodAll_nil r7
  obtain rfl : args = #[v0, v1, v2, v3, v4, v5, v6, v7] := by cases args; simp_all
  obtain ⟨C, rfl, hC, inD, lA, lW, llA, llW⟩ := rd_clim Try.underlying3 (by kernel_rfl) Try.underlying26 (by kernel_rfl) ⟨rfl, rfl⟩ ⟨rfl, rfl⟩ Try.underlying81 (by kernel_rfl) Try.underlying22 (by kernel_rfl) Try.underlying24 (by kernel_rfl) ⟨rfl, rfl⟩ ⟨rfl, rfl⟩ ⟨rfl, rfl⟩ (hval 0 _ _ rfl rfl) h0
  obtain ⟨xa, xb, xc, xd, xe, rfl, inxa, inxb, inxc⟩ := rd_iss Try.underlying3 (by kernel_rfl) Try.underlying26 (by kernel_rfl) ⟨rfl, rfl⟩ ⟨rfl, rfl⟩ Try.underlying28 (by kernel_rfl) ⟨rfl, rfl⟩ ⟨rfl, rfl⟩ ⟨rfl, rfl⟩ (hval 1 _ _ rfl rfl) h1
  obtain ⟨aS, k, cS, F, G, rfl, leS, mxS, hS, rS⟩ := rd_spans Try.underlying3 (by kernel_rfl) Try.underlying53 (by kernel_rfl) ⟨rfl, rfl⟩ ⟨rfl, rfl⟩ Try.underlying29 (hval 2 _ _ rfl rfl) h2
  obtain ⟨day, rfl, inday⟩ := rd_int Try.underlying3 (hval 3 _ _ rfl rfl) h3
  obtain ⟨aB, nb, cB, U, rfl, leU, mxU, hU, rU⟩ := rd_nums Try.underlying49 Try.underlying31 (by kernel_rfl) (hval 4 _ _ rfl rfl) h4
  obtain ⟨of, rfl, inof⟩ := rd_u16 Try.underlying30 (hval 5 _ _ rfl rfl) h5
  obtain ⟨tk, rfl, intk⟩ := rd_u16 Try.underlying30 (hval 6 _ _ rfl rfl) h6
  obtain ⟨ad, rfl, inad⟩ := rd_u16 Try.underlying30 (hval 7 _ _ rfl rfl) h7
  refine (found_any C ⟨xa, xb, xc, xd, xe⟩ aS aB k cS nb cB F G U day of tk ad W hC ⟨by unfold maxLen at lA; omega, by unfold maxLen at lW; omega, fun i hi => by have := llA i hi; unfold maxLen at this; omega, fun i hi => by have := llW i hi; unfold maxLen at this; omega, by unfold maxLen at mxS; omega⟩ hS hU (fun i hi => inU32_of (rU i hi)) (by unfold maxLen at mxU; omega) inof.1 inof.2 intk.1 intk.2 inad.1 inad.2).mono fun e W' ⟨he, hb⟩ => ?_
  subst he
  exact ⟨_, rfl, law_post hW' (by kernel_rfl) rfl (by rw [Try.params5]; decide +kernel) rfl hb⟩

theorem found_holds : Rows.HouseFoundSaid :=
  OpenClaim.holds_of_wide 5 Try.f5 rfl rfl rfl rfl rfl rfl rfl ⟨rfl, rfl, rfl, rfl, rfl⟩ rfl rfl rfl rfl rfl (by kernel_rfl) Try.func5 (by kernel_rfl)
    (of_decide_eq_true (by kernel_rfl)) (by unfold Func.isWrapper; first | (rw [if_pos (by decide +kernel)]; kernel_rfl) | (rw [if_neg (by decide +kernel)]; exact ⟨rfl, rfl⟩))
    (fun os started H enc _ => found_lifted os started H enc)

#print axioms found_holds
end Go.Proofs.Ytljofnmgddfljaa
