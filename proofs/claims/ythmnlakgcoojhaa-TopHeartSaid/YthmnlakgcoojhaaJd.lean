/- TopHeart holds: for every input the law returns true, and the arguments read as they did. No conditions. -/
import Derived.Test.YthmnlakgcoojhaaRows
import Derived.Test.YthmnlakgcoojhaaAd
import Derived.Test.YthmnlakgcoojhaaAe
import Derived.Test.YthmnlakgcoojhaaFb
import Derived.Test.YthmnlakgcoojhaaJc
import Derived.OpenShut
set_option linter.unusedVariables false
set_option linter.unusedSimpArgs false
set_option linter.unusedSectionVars false
set_option linter.constructorNameAsVariable false
namespace Go.Proofs.Ythmnlakgcoojhaa
open Go.ChangeShapes Go.WideShapes Go.ChangeAt Go.RowKit

theorem topHeart_law (aL aV aM : Option Addr) (m cL cV k cM : Nat) (c : L4.Crv) (p : L4.Pot3) (M : Nat → Int) (f t : Int) (w : World) (hL : IntsAt w aL c.n c.L) (hV : SpansAt w aV m c.A c.B) (hM : IntsAt w aM k M) :
    Calls Try.prog 3 #[.agg #[.slice aL c.n cL, .slice aV m cV], .agg #[.int .i64 p.v, .int .i64 p.lo, .int .i64 p.hi], .slice aM k cM, .int .i64 f, .int .i64 t] w fun e w' => e = .returned (.bool true) ∧ Below w.heap.size w w' := by
  by_cases h : 40 < c.n ∨ 40 < m ∨ 40 < k
  · exact heart_long aL aV aM m cL cV k cM c p M f t w h
  · by_cases hh : HeartOk m c p M k f t
    · exact heart_some aL aV aM m cL cV k cM c p M f t w (by omega) (by omega) (by omega) hL hV hM hh
    · exact heart_none aL aV aM m cL cV k cM c p M f t w (by omega) (by omega) (by omega) hL hV hM hh

set_option maxRecDepth 100000 in
theorem heart_lifted (os : Os) (started : os.Started) (H : Type) (enc : TypeId × Value → H) :
    ReturnsInHanded {} Try.checked os 3 .any (Rows.topHeartSpec.pre6 enc Try.prog Try.f3 Rows.topHeartRow.domain false) (Rows.topHeartSpec.post enc Try.prog Try.f3 false true false false) := by
  refine returnsInHanded_of_change (C := Try.checked) own started (by kernel_rfl) Try.func3
    (ChangeSpec.witness6 (enc := enc) (C := Try.checked) false ⟨#[], #[.agg #[.slice none 0 0, .slice none 0 0], .agg #[.int .i64 0, .int .i64 0, .int .i64 0], .slice none 0 0, .int .i64 0, .int .i64 0], []⟩ 8 (by kernel_rfl) (by kernel_rfl) (by kernel_rfl) (by kernel_rfl)) ?_
  intro W base args ds gs before hval0 hW _ _
  have hval : ∀ (j : Nat) t v, Try.f3.params[j]? = some t → args[j]? = some v → Value.okWide Try.prog W .any base t v := hval0
  have hW' := hW
  obtain ⟨p, q, hA0, hV, rfl, _, _⟩ := hW
  have hA : DataW.TrodAll enc Try.prog W 0 (fun _ => true) true Try.f3.params.toList args.toList ds p := hA0
  rw [Try.params3] at hA hval
  obtain ⟨v0, vs0, d0, ds0, p0, q0, hargs0, rfl, rfl, h0, r0⟩ := trodAll_cons hA
  obtain ⟨v1, vs1, d1, ds1, p1, q1, hargs1, rfl, rfl, h1, r1⟩ := trodAll_cons r0
  obtain ⟨v2, vs2, d2, ds2, p2, q2, hargs2, rfl, rfl, h2, r2⟩ := trodAll_cons r1
  obtain ⟨v3, vs3, d3, ds3, p3, q3, hargs3, rfl, rfl, h3, r3⟩ := trodAll_cons r2
  obtain ⟨v4, vs4, d4, ds4, p4, q4, hargs4, rfl, rfl, h4, r4⟩ := trodAll_cons r3
  obtain ⟨rfl, rfl, rfl⟩ := trodAll_nil r4
  obtain rfl : args = #[v0, v1, v2, v3, v4] := by cases args; simp_all
  obtain ⟨aL, aV, n, m, cL, cV, L, A, B, rfl, hC⟩ := L4.rd_curve Try.underlying3 (by kernel_rfl) Try.underlying27 (by kernel_rfl) ⟨rfl, rfl⟩ ⟨rfl, rfl⟩ Try.underlying22 (by kernel_rfl) Try.underlying23 (by kernel_rfl) Try.underlying25 (by kernel_rfl) ⟨rfl, rfl⟩ ⟨rfl, rfl⟩ (hval 0 _ _ rfl rfl) h0
  obtain ⟨v, lo, hi, rfl, inv, inlo, inhi⟩ := L4.rd_pot Try.underlying3 (by kernel_rfl) Try.underlying27 (by kernel_rfl) ⟨rfl, rfl⟩ ⟨rfl, rfl⟩ Try.underlying29 (by kernel_rfl) ⟨rfl, rfl⟩ ⟨rfl, rfl⟩ (hval 1 _ _ rfl rfl) h1
  obtain ⟨aM, k, cM, M, rfl, leM, mxM, hM, rM⟩ := rd_nums Try.underlying22 Try.underlying3 (by kernel_rfl) (hval 2 _ _ rfl rfl) h2
  obtain ⟨f, rfl, inf⟩ := rd_int Try.underlying3 (hval 3 _ _ rfl rfl) h3
  obtain ⟨t, rfl, int⟩ := rd_int Try.underlying3 (hval 4 _ _ rfl rfl) h4
  refine (topHeart_law aL aV aM m cL cV k cM ⟨n, L, A, B⟩ ⟨v, lo, hi⟩ M f t W hC.ls hC.vs hM).mono fun e W' ⟨he, hb⟩ => ?_
  subst he
  exact ⟨_, rfl, law_post hW' (by kernel_rfl) rfl (by rw [Try.params3]; decide +kernel) rfl hb⟩

theorem heart_holds : Rows.TopHeartSaid :=
  OpenClaim.holds_of_wide 3 Try.f3 rfl rfl rfl rfl rfl rfl rfl ⟨rfl, rfl, rfl, rfl, rfl⟩ rfl rfl rfl rfl rfl (by kernel_rfl) Try.func3 (by kernel_rfl)
    (of_decide_eq_true (by kernel_rfl)) (by unfold Func.isWrapper; first | (rw [if_pos (by decide +kernel)]; kernel_rfl) | (rw [if_neg (by decide +kernel)]; exact ⟨rfl, rfl⟩))
    (fun os started H enc _ => heart_lifted os started H enc)

#print axioms heart_holds
end Go.Proofs.Ythmnlakgcoojhaa
