/- StillLasts holds: for every input the law returns true, and the arguments read as they did. No conditions. -/
import Derived.Test.YtnmldophadanbaaRows
import Derived.Test.YtnmldophadanbaaFa
import Derived.Test.YtnmldophadanbaaFb
import Derived.Test.YtnmldophadanbaaLc
import Derived.Test.YtnmldophadanbaaLd
import Derived.Test.YtnmldophadanbaaLe
import Derived.OpenShut
set_option linter.unusedVariables false
set_option linter.unusedSimpArgs false
set_option linter.unusedSectionVars false
set_option linter.constructorNameAsVariable false
namespace Go.Proofs.Ytnmldophadanbaa
open Go.ChangeShapes Go.WideShapes Go.ChangeAt Go.RowKit

theorem lasts_any (tl th wl wh l : Int) (a : Option Addr) (n c : Nat) (Y : Nat → Int) (w : World) (hY : NumsAt .u32 w a n Y) (hr : ∀ i, i < n → 0 ≤ Y i ∧ Y i ≤ 4294967295) (hn : n ≤ 9223372036854775807) :
    Calls Try.prog 7 #[.agg #[.int .i64 tl, .int .i64 th], .agg #[.int .i64 wl, .int .i64 wh], .int .i64 l, .slice a n c] w (True1 w) := by
  by_cases hE : wearErr tl th wl wh l = 0
  · rcases runs_cases hE with h | ⟨h, ⟨h1, h2⟩ | ⟨h1, h2⟩⟩
    · exact lasts_ok0 tl th wl wh l a n c Y w hE hY hr hn h
    · exact lasts_ok1 tl th wl wh l a n c Y w hE hY hr hn h h1 h2
    · exact lasts_ok2 tl th wl wh l a n c Y w hE hY hr hn h h1 h2
  · exact lasts_err tl th wl wh l a n c w _ rfl hE

set_option maxRecDepth 100000 in
theorem lasts_lifted (os : Os) (started : os.Started) (H : Type) (enc : TypeId × Value → H) :
    ReturnsInHanded {} Try.checked os 7 .any (Rows.stillLastsSpec.pre6 enc Try.prog Try.f7 Rows.stillLastsRow.domain false) (Rows.stillLastsSpec.post enc Try.prog Try.f7 false true false false) := by
  refine returnsInHanded_of_change (C := Try.checked) own started (by kernel_rfl) Try.func7
    (ChangeSpec.witness6 (enc := enc) (C := Try.checked) false ⟨#[], #[.agg #[.int .i64 0, .int .i64 0], .agg #[.int .i64 0, .int .i64 0], .int .i64 0, .slice none 0 0], []⟩ 8 (by kernel_rfl) (by kernel_rfl) (by kernel_rfl) (by kernel_rfl)) ?_
  intro W base args ds gs before hval0 hW _ _
  have hval : ∀ (j : Nat) t v, Try.f7.params[j]? = some t → args[j]? = some v → Value.okWide Try.prog W .any base t v := hval0
  have hW' := hW
  obtain ⟨p, q, hA0, hV, rfl, _, _⟩ := hW
  have hA : DataW.TrodAll enc Try.prog W 0 (fun _ => true) true Try.f7.params.toList args.toList ds p := hA0
  rw [Try.params7] at hA hval
  obtain ⟨v0, vs0, d0, ds0, p0, q0, hargs, rfl, rfl, h0, r0⟩ := trodAll_cons hA
  obtain ⟨v1, vs1, d1, ds1, p1, q1, hargs1, rfl, rfl, h1, r1⟩ := trodAll_cons r0
  obtain ⟨v2, vs2, d2, ds2, p2, q2, hargs2, rfl, rfl, h2, r2⟩ := trodAll_cons r1
  obtain ⟨v3, vs3, d3, ds3, p3, q3, hargs3, rfl, rfl, h3, r3⟩ := trodAll_cons r2
  obtain ⟨rfl, rfl, rfl⟩ := trodAll_nil r3
  obtain rfl : args = #[v0, v1, v2, v3] := by cases args; simp_all
  obtain ⟨tl, th, rfl, _, _⟩ := rd_span Try.underlying3 (by kernel_rfl) Try.underlying27 (by kernel_rfl) ⟨rfl, rfl⟩ ⟨rfl, rfl⟩ (hval 0 _ _ rfl rfl) h0
  obtain ⟨wl, wh, rfl, _, _⟩ := rd_span Try.underlying3 (by kernel_rfl) Try.underlying27 (by kernel_rfl) ⟨rfl, rfl⟩ ⟨rfl, rfl⟩ (hval 1 _ _ rfl rfl) h1
  obtain ⟨l, rfl, _⟩ := rd_int Try.underlying3 (hval 2 _ _ rfl rfl) h2
  obtain ⟨a, n, c, Y, rfl, n1, n2, hY, hr⟩ := rd_nums Try.underlying43 Try.underlying30 (by kernel_rfl) (hval 3 _ _ rfl rfl) h3
  refine (lasts_any tl th wl wh l a n c Y W hY (fun i hi => inU32_of (hr i hi)) (by unfold maxLen at n2; omega)).mono fun e W' ⟨he, hb⟩ => ?_
  subst he
  exact ⟨_, rfl, law_post hW' (by kernel_rfl) rfl (by rw [Try.params7]; decide +kernel) rfl hb⟩

theorem lasts_holds : Rows.StillLastsSaid :=
  OpenClaim.holds_of_wide 7 Try.f7 rfl rfl rfl rfl rfl rfl rfl ⟨rfl, rfl, rfl, rfl, rfl⟩ rfl rfl rfl rfl rfl (by kernel_rfl) Try.func7 (by kernel_rfl)
    (of_decide_eq_true (by kernel_rfl)) (by unfold Func.isWrapper; first | (rw [if_pos (by decide +kernel)]; kernel_rfl) | (rw [if_neg (by decide +kernel)]; exact ⟨rfl, rfl⟩))
    (fun os started H enc _ => lasts_lifted os started H enc)

#print axioms lasts_holds
end Go.Proofs.Ytnmldophadanbaa
