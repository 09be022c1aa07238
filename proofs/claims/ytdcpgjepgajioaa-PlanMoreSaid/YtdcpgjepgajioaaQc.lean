/- PlanMore holds: for every input the law returns true, and the arguments read as they did. No conditions. -/
import Derived.Test.YtdcpgjepgajioaaRows
import Derived.Test.YtdcpgjepgajioaaRa
import Derived.Test.YtdcpgjepgajioaaQb
import Derived.OpenShut
set_option linter.unusedVariables false
set_option linter.unusedSimpArgs false
set_option linter.unusedSectionVars false
set_option linter.constructorNameAsVariable false
namespace Go.Proofs.Ytdcpgjepgajioaa
open Go.ChangeShapes Go.WideShapes Go.ChangeAt Go.RowKit

set_option maxRecDepth 100000 in
theorem more_lifted (os : Os) (started : os.Started) (H : Type) (enc : TypeId × Value → H) :
    ReturnsInHanded {} Try.checked os 6 .any (Rows.planMoreSpec.pre6 enc Try.prog Try.f6 Rows.planMoreRow.domain false) (Rows.planMoreSpec.post enc Try.prog Try.f6 false true false false) := by
  refine returnsInHanded_of_change (C := Try.checked) own started (by kernel_rfl) Try.func6
    (ChangeSpec.witness6 (enc := enc) (C := Try.checked) false ⟨#[], #[.agg #[.slice none 0 0, .int .i64 0, .int .i64 0, .slice none 0 0, .slice none 0 0], .agg #[.slice none 0 0, .slice none 0 0, .int .i64 0, .int .i64 0], .slice none 0 0, .int .i64 0, .slice none 0 0, .int .u16 0], []⟩ 8 (by kernel_rfl) (by kernel_rfl) (by kernel_rfl) (by kernel_rfl)) ?_
  intro W base args ds gs before hval0 hW _ _
  have hval : ∀ (j : Nat) t v, Try.f6.params[j]? = some t → args[j]? = some v → Value.okWide Try.prog W .any base t v := hval0
  have hW' := hW
  obtain ⟨p, q, hA0, hV, rfl, _, _⟩ := hW
  have hA : DataW.TrodAll enc Try.prog W 0 (fun _ => true) true Try.f6.params.toList args.toList ds p := hA0
  rw [Try.params6] at hA hval
  obtain ⟨v0, vs0, d0, ds0, p0, q0, hargs0, rfl, rfl, h0, r0⟩ := trodAll_cons hA
  obtain ⟨v1, vs1, d1, ds1, p1, q1, hargs1, rfl, rfl, h1, r1⟩ := trodAll_cons r0
  obtain ⟨v2, vs2, d2, ds2, p2, q2, hargs2, rfl, rfl, h2, r2⟩ := trodAll_cons r1
  obtain ⟨v3, vs3, d3, ds3, p3, q3, hargs3, rfl, rfl, h3, r3⟩ := trodAll_cons r2
  obtain ⟨v4, vs4, d4, ds4, p4, q4, hargs4, rfl, rfl, h4, r4⟩ := trodAll_cons r3
  obtain ⟨v5, vs5, d5, ds5, p5, q5, hargs5, rfl, rfl, h5, r5⟩ := trodAll_cons r4
  obtain ⟨rfl, rfl, rfl⟩ := trodAll_nil r5
  obtain rfl : args = #[v0, v1, v2, v3, v4, v5] := by cases args; simp_all
  obtain ⟨o, rfl, Io, Fo, No⟩ := rd_outlook Try.underlying3 (by kernel_rfl) Try.underlying22 (by kernel_rfl) Try.underlying32 (by kernel_rfl) Try.underlying25 (by kernel_rfl) Try.underlying24 (by kernel_rfl) ⟨rfl, rfl⟩ ⟨rfl, rfl⟩ Try.underlying27 (by kernel_rfl) ⟨rfl, rfl⟩ ⟨rfl, rfl⟩ ⟨rfl, rfl⟩ ⟨rfl, rfl⟩ (hval 0 _ _ rfl rfl) h0
  obtain ⟨y, rfl, Iy, Fy, Ny⟩ := rd_laying Try.underlying3 (by kernel_rfl) Try.underlying22 (by kernel_rfl) Try.underlying29 (by kernel_rfl) ⟨rfl, rfl⟩ ⟨rfl, rfl⟩ ⟨rfl, rfl⟩ ⟨rfl, rfl⟩ (hval 1 _ _ rfl rfl) h1
  obtain ⟨aL, m, cL, L, rfl, leL, mxL, hL, rL⟩ := rd_nums Try.underlying22 Try.underlying3 (by kernel_rfl) (hval 2 _ _ rfl rfl) h2
  obtain ⟨pt, rfl, inpt⟩ := rd_int Try.underlying3 (hval 3 _ _ rfl rfl) h3
  obtain ⟨aB, nB, cB, B, rfl, leB, mxB, hB, rB⟩ := rd_nums Try.underlying55 Try.underlying56 (by kernel_rfl) (hval 4 _ _ rfl rfl) h4
  obtain ⟨le, rfl, inle⟩ := rd_u16 Try.underlying56 (hval 5 _ _ rfl rfl) h5
  refine (planMore_law o y aL m cL L pt aB nB cB B le W Io Fo Iy Fy hL (by unfold maxLen at *; omega) hB (by unfold maxLen at *; omega) (fun i hi => inU16_of (rB i hi)) inle).mono fun e W' ⟨he, hb⟩ => ?_
  subst he
  exact ⟨_, rfl, law_post hW' (by kernel_rfl) rfl (by rw [Try.params6]; decide +kernel) rfl hb⟩

theorem more_holds : Rows.PlanMoreSaid :=
  OpenClaim.holds_of_wide 6 Try.f6 rfl rfl rfl rfl rfl rfl rfl ⟨rfl, rfl, rfl, rfl, rfl⟩ rfl rfl rfl rfl rfl (by kernel_rfl) Try.func6 (by kernel_rfl)
    (of_decide_eq_true (by kernel_rfl)) (by unfold Func.isWrapper; first | (rw [if_pos (by decide +kernel)]; kernel_rfl) | (rw [if_neg (by decide +kernel)]; exact ⟨rfl, rfl⟩))
    (fun os started H enc _ => more_lifted os started H enc)

#print axioms more_holds
end Go.Proofs.Ytdcpgjepgajioaa
