/- TopGauged holds: for every input the law returns true, and the arguments read as they did. No conditions. -/
import Derived.Test.YtjgnafhbeekebaaGreatRows
import Derived.Test.YtjgnafhbeekebaaGreatNd
import Derived.OpenShut
set_option linter.unusedVariables false
set_option linter.unusedSimpArgs false
set_option linter.unusedSectionVars false
set_option linter.constructorNameAsVariable false
namespace Go.Proofs.YtjgnafhbeekebaaGreat
open Go.ChangeShapes Go.WideShapes Go.ChangeAt Go.RowKit

theorem gauge_law (t : L1.Tab) (tlo thi : Int) (C : L7.Clim) (x : L7.Cont) (aS : Option Addr) (k cS : Nat) (F G : Nat → Int) (dy : Int) (aB : Option Addr) (nb cB : Nat) (U : Nat → Int) (w : World) (hT : t.In w) (hC : C.In w) (hf : C.Fits) (hk : k ≤ 9223372036854775807) (hS : SpansAt w aS k F G) (hL : t.Lens) (hU : NumsAt .u32 w aB nb U) (hr : ∀ i, i < nb → 0 ≤ U i ∧ U i ≤ 4294967295) (hn2 : nb ≤ 9223372036854775807) (hy : 0 ≤ dy ∧ dy ≤ 255) :
    Calls Tryz.prog 3 #[.agg #[.slice t.aT t.nT t.cT, .slice t.aS t.nS t.cS, .slice t.H.a t.H.n t.H.c, .slice t.R.a t.R.n t.R.c], .agg #[.int .i64 tlo, .int .i64 thi], .agg #[.int .i64 C.days, .slice C.aA C.nA C.cA, .slice C.aW C.nW C.cW], .agg #[.int .i64 x.day, .int .i64 x.alo, .int .i64 x.ahi, .int .i64 x.wlo, .int .i64 x.whi], .slice aS k cS, .int .u8 dy, .slice aB nb cB] w fun e w' => e = .returned (.bool true) ∧ Below w.heap.size w w' := by
  by_cases hl : 40 < t.nT ∨ 40 < t.nS ∨ 10 < C.nA ∨ 70 < k ∨ nb = 0
  · exact gauge_long t tlo thi C x aS k cS F G dy aB nb cB U w hl
  · cases hb : gaugeB t tlo thi C x k F G with
    | false => exact gauge_bad t tlo thi C x aS k cS F G dy aB nb cB U w hT hC hf hk hS (by omega) (by omega) (by omega) (by omega) (by omega) hb
    | true =>
      obtain ⟨n, rfl⟩ : ∃ n, nb = n + 1 := ⟨nb - 1, by omega⟩
      exact gauge_main t tlo thi C x aS k cS F G dy aB n cB U w hT hL hC hf hk hS hU hr hn2 hy (by omega) (by omega) (by omega) (by omega) hb

set_option maxRecDepth 100000 in
theorem gauge_lifted (os : Os) (started : os.Started) (H : Type) (enc : TypeId × Value → H) :
    ReturnsInHanded {} Tryz.checked os 3 .any (Rows.topGaugedSpec.pre6 enc Tryz.prog Tryz.f3 Rows.topGaugedRow.domain false) (Rows.topGaugedSpec.post enc Tryz.prog Tryz.f3 false true false false) := by
  refine returnsInHanded_of_change (C := Tryz.checked) own started (by kernel_rfl) Tryz.func3
    (ChangeSpec.witness6 (enc := enc) (C := Tryz.checked) false ⟨#[], #[.agg #[.slice none 0 0, .slice none 0 0, .slice none 0 0, .slice none 0 0], .agg #[.int .i64 0, .int .i64 0], .agg #[.int .i64 0, .slice none 0 0, .slice none 0 0], .agg #[.int .i64 0, .int .i64 0, .int .i64 0, .int .i64 0, .int .i64 0], .slice none 0 0, .int .u8 0, .slice none 0 0], []⟩ 8 (by kernel_rfl) (by kernel_rfl) (by kernel_rfl) (by kernel_rfl)) ?_
  intro W base args ds gs before hval0 hW _ _
  have hval : ∀ (j : Nat) t v, Tryz.f3.params[j]? = some t → args[j]? = some v → Value.okWide Tryz.prog W .any base t v := hval0
  have hW' := hW
  obtain ⟨p, q, hA0, hV, rfl, _, _⟩ := hW
  have hA : DataW.TrodAll enc Tryz.prog W 0 (fun _ => true) true Tryz.f3.params.toList args.toList ds p := hA0
  rw [Tryz.params3] at hA hval
  obtain ⟨v0, vs0, d0, ds0, p0, q0, hargs0, rfl, rfl, h0, r0⟩ := trodAll_cons hA
  obtain ⟨v1, vs1, d1, ds1, p1, q1, hargs1, rfl, rfl, h1, r1⟩ := trodAll_cons r0
  obtain ⟨v2, vs2, d2, ds2, p2, q2, hargs2, rfl, rfl, h2, r2⟩ := trodAll_cons r1
  obtain ⟨v3, vs3, d3, ds3, p3, q3, hargs3, rfl, rfl, h3, r3⟩ := trodAll_cons r2
  obtain ⟨v4, vs4, d4, ds4, p4, q4, hargs4, rfl, rfl, h4, r4⟩ := trodAll_cons r3
  obtain ⟨v5, vs5, d5, ds5, p5, q5, hargs5, rfl, rfl, h5, r5⟩ := trodAll_cons r4
  obtain ⟨v6, vs6, d6, ds6, p6, q6, hargs6, rfl, rfl, h6, r6⟩ := trodAll_cons r5
  obtain ⟨rfl, rfl, rfl⟩ := trodAll_nil r6
  obtain rfl : args = #[v0, v1, v2, v3, v4, v5, v6] := by cases args; simp_all
  obtain ⟨t, rfl, hI, hL, hN⟩ := L1.rd_table Tryz.underlying3 (by kernel_rfl) Tryz.underlying22 (by kernel_rfl) Tryz.underlying23 (by kernel_rfl) Tryz.underlying25 (by kernel_rfl) ⟨rfl, rfl⟩ ⟨rfl, rfl⟩ ⟨rfl, rfl⟩ ⟨rfl, rfl⟩ (hval 0 _ _ rfl rfl) h0
  obtain ⟨tlo, thi, rfl, intlo, inthi⟩ := rd_span Tryz.underlying3 (by kernel_rfl) Tryz.underlying27 (by kernel_rfl) ⟨rfl, rfl⟩ ⟨rfl, rfl⟩ (hval 1 _ _ rfl rfl) h1
  obtain ⟨C, rfl, hC, inD, lA, lW, llA, llW⟩ := L7.rd_clim Tryz.underlying3 (by kernel_rfl) Tryz.underlying27 (by kernel_rfl) ⟨rfl, rfl⟩ ⟨rfl, rfl⟩ Tryz.underlying47 (by kernel_rfl) Tryz.underlying28 (by kernel_rfl) Tryz.underlying30 (by kernel_rfl) ⟨rfl, rfl⟩ ⟨rfl, rfl⟩ ⟨rfl, rfl⟩ (hval 2 _ _ rfl rfl) h2
  obtain ⟨xa, xb, xc, xd, xe, rfl, inxa, inxb, inxc⟩ := L7.rd_iss Tryz.underlying3 (by kernel_rfl) Tryz.underlying27 (by kernel_rfl) ⟨rfl, rfl⟩ ⟨rfl, rfl⟩ Tryz.underlying32 (by kernel_rfl) ⟨rfl, rfl⟩ ⟨rfl, rfl⟩ ⟨rfl, rfl⟩ (hval 3 _ _ rfl rfl) h3
  obtain ⟨aS, k, cS, F, G, rfl, leS, mxS, hS, rS⟩ := L7.rd_spans Tryz.underlying3 (by kernel_rfl) Tryz.underlying41 (by kernel_rfl) ⟨rfl, rfl⟩ ⟨rfl, rfl⟩ Tryz.underlying33 (hval 4 _ _ rfl rfl) h4
  obtain ⟨dy, rfl, indy⟩ := rd_u8 Tryz.underlying5 (hval 5 _ _ rfl rfl) h5
  obtain ⟨aB, nb, cB, U, rfl, leU, mxU, hU, rU⟩ := rd_nums Tryz.underlying34 Tryz.underlying44 (by kernel_rfl) (hval 6 _ _ rfl rfl) h6
  refine (gauge_law t tlo thi C ⟨xa, xb, xc, xd, xe⟩ aS k cS F G dy aB nb cB U W hI hC ⟨by unfold maxLen at lA; omega, by unfold maxLen at lW; omega, fun i hi => by have := llA i hi; unfold maxLen at this; omega, fun i hi => by have := llW i hi; unfold maxLen at this; omega⟩ (by unfold maxLen at mxS; omega) hS hL hU (fun i hi => inU32_of (rU i hi)) (by unfold maxLen at mxU; omega) indy).mono fun e W' ⟨he, hb⟩ => ?_
  subst he
  exact ⟨_, rfl, law_post hW' (by kernel_rfl) rfl (by rw [Tryz.params3]; decide +kernel) rfl hb⟩

theorem gauge_holds : Rows.TopGaugedSaid :=
  OpenClaim.holds_of_wide 3 Tryz.f3 rfl rfl rfl rfl rfl rfl rfl ⟨rfl, rfl, rfl, rfl, rfl⟩ rfl rfl rfl rfl rfl (by kernel_rfl) Tryz.func3 (by kernel_rfl)
    (of_decide_eq_true (by kernel_rfl)) (by unfold Func.isWrapper; first | (rw [if_pos (by decide +kernel)]; kernel_rfl) | (rw [if_neg (by decide +kernel)]; exact ⟨rfl, rfl⟩))
    (fun os started H enc _ => gauge_lifted os started H enc)

#print axioms gauge_holds
end Go.Proofs.YtjgnafhbeekebaaGreat
