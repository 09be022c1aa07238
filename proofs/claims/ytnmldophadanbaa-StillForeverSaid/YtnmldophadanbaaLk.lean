/- StillForever holds: for every input the law returns true, and the arguments read as they did. No conditions. -/
import Derived.Test.YtnmldophadanbaaRows
import Derived.Test.YtnmldophadanbaaFa
import Derived.Test.YtnmldophadanbaaFb
import Derived.Test.YtnmldophadanbaaLh
import Derived.Test.YtnmldophadanbaaLi
import Derived.Test.YtnmldophadanbaaLj
import Derived.OpenShut
set_option linter.unusedVariables false
set_option linter.unusedSimpArgs false
set_option linter.unusedSectionVars false
set_option linter.constructorNameAsVariable false
namespace Go.Proofs.Ytnmldophadanbaa
open Go.ChangeShapes Go.WideShapes Go.ChangeAt Go.RowKit

theorem forever_any (fl fh kl kh s l m : Int) (a : Option Addr) (n c : Nat) (Y : Nat → Int) (w : World) (hY : NumsAt .u32 w a n Y) (hr : ∀ i, i < n → 0 ≤ Y i ∧ Y i ≤ 4294967295) (hn : n ≤ 9223372036854775807) (hm : In64 m) :
    Calls Try.prog 4 #[.agg #[.int .i64 fl, .int .i64 fh], .agg #[.int .i64 kl, .int .i64 kh], .int .i64 s, .int .i64 l, .int .i64 m, .slice a n c] w (True1 w) := by
  by_cases hE : cycErr fl fh kl kh s l = 0
  · obtain ⟨i, hi⟩ := cyc_exists fh kh s l
    by_cases h1 : cycF fh kh s i ≤ l
    · exact forever_ok0 fl fh kl kh s l m a n c Y w hE hY hr hn hm i hi h1
    · by_cases h2 : i < 60
      · exact forever_ok1 fl fh kl kh s l m a n c Y w hE hY hr hn hm i hi (by omega) h2
      · exact forever_ok2 fl fh kl kh s l m a n c Y w hE hY hr hn hm i hi (by omega) (by omega)
  · exact forever_err fl fh kl kh s l m a n c w _ rfl hE

set_option maxRecDepth 100000 in
theorem forever_lifted (os : Os) (started : os.Started) (H : Type) (enc : TypeId × Value → H) :
    ReturnsInHanded {} Try.checked os 4 .any (Rows.stillForeverSpec.pre6 enc Try.prog Try.f4 Rows.stillForeverRow.domain false) (Rows.stillForeverSpec.post enc Try.prog Try.f4 false true false false) := by
  refine returnsInHanded_of_change (C := Try.checked) own started (by kernel_rfl) Try.func4
    (ChangeSpec.witness6 (enc := enc) (C := Try.checked) false ⟨#[], #[.agg #[.int .i64 0, .int .i64 0], .agg #[.int .i64 0, .int .i64 0], .int .i64 0, .int .i64 0, .int .i64 0, .slice none 0 0], []⟩ 8 (by kernel_rfl) (by kernel_rfl) (by kernel_rfl) (by kernel_rfl)) ?_
  intro W base args ds gs before hval0 hW _ _
  have hval : ∀ (j : Nat) t v, Try.f4.params[j]? = some t → args[j]? = some v → Value.okWide Try.prog W .any base t v := hval0
  have hW' := hW
  obtain ⟨p, q, hA0, hV, rfl, _, _⟩ := hW
  have hA : DataW.TrodAll enc Try.prog W 0 (fun _ => true) true Try.f4.params.toList args.toList ds p := hA0
  rw [Try.params4] at hA hval
  obtain ⟨v0, vs0, d0, ds0, p0, q0, hargs, rfl, rfl, h0, r0⟩ := trodAll_cons hA
  obtain ⟨v1, vs1, d1, ds1, p1, q1, hargs1, rfl, rfl, h1, r1⟩ := trodAll_cons r0
  obtain ⟨v2, vs2, d2, ds2, p2, q2, hargs2, rfl, rfl, h2, r2⟩ := trodAll_cons r1
  obtain ⟨v3, vs3, d3, ds3, p3, q3, hargs3, rfl, rfl, h3, r3⟩ := trodAll_cons r2
  obtain ⟨v4, vs4, d4, ds4, p4, q4, hargs4, rfl, rfl, h4, r4⟩ := trodAll_cons r3
  obtain ⟨v5, vs5, d5, ds5, p5, q5, hargs5, rfl, rfl, h5, r5⟩ := trodAll_cons r4
  obtain ⟨rfl, rfl, rfl⟩ := trodAll_nil r5
  obtain rfl : args = #[v0, v1, v2, v3, v4, v5] := by cases args; simp_all
  obtain ⟨fl, fh, rfl, _, _⟩ := rd_span Try.underlying3 (by kernel_rfl) Try.underlying27 (by kernel_rfl) ⟨rfl, rfl⟩ ⟨rfl, rfl⟩ (hval 0 _ _ rfl rfl) h0
  obtain ⟨kl, kh, rfl, _, _⟩ := rd_span Try.underlying3 (by kernel_rfl) Try.underlying27 (by kernel_rfl) ⟨rfl, rfl⟩ ⟨rfl, rfl⟩ (hval 1 _ _ rfl rfl) h1
  obtain ⟨s, rfl, _⟩ := rd_int Try.underlying3 (hval 2 _ _ rfl rfl) h2
  obtain ⟨l, rfl, _⟩ := rd_int Try.underlying3 (hval 3 _ _ rfl rfl) h3
  obtain ⟨m, rfl, hm⟩ := rd_int Try.underlying3 (hval 4 _ _ rfl rfl) h4
  obtain ⟨a, n, c, Y, rfl, n1, n2, hY, hr⟩ := rd_nums Try.underlying43 Try.underlying30 (by kernel_rfl) (hval 5 _ _ rfl rfl) h5
  refine (forever_any fl fh kl kh s l m a n c Y W hY (fun i hi => inU32_of (hr i hi)) (by unfold maxLen at n2; omega) hm).mono fun e W' ⟨he, hb⟩ => ?_
  subst he
  exact ⟨_, rfl, law_post hW' (by kernel_rfl) rfl (by rw [Try.params4]; decide +kernel) rfl hb⟩

theorem forever_holds : Rows.StillForeverSaid :=
  OpenClaim.holds_of_wide 4 Try.f4 rfl rfl rfl rfl rfl rfl rfl ⟨rfl, rfl, rfl, rfl, rfl⟩ rfl rfl rfl rfl rfl (by kernel_rfl) Try.func4 (by kernel_rfl)
    (of_decide_eq_true (by kernel_rfl)) (by unfold Func.isWrapper; first | (rw [if_pos (by decide +kernel)]; kernel_rfl) | (rw [if_neg (by decide +kernel)]; exact ⟨rfl, rfl⟩))
    (fun os started H enc _ => forever_lifted os started H enc)

#print axioms forever_holds
end Go.Proofs.Ytnmldophadanbaa
