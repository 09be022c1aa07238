/- Plain laws: what is true lies within the vats' spans. No conditions beyond each theorem's own. -/
import Derived.Test.YtecbacbecopbeaaEa
set_option linter.unusedVariables false
set_option linter.unusedSimpArgs false
set_option linter.unusedSectionVars false
set_option linter.constructorNameAsVariable false
namespace Go.Proofs.Ytecbacbecopbeaa
open Go.RowKit

theorem YNar.self {y : Yst} (hB : ystB y = true) : YNar y y := by
  obtain ⟨-, -, -, h3, h4, h5, h6⟩ := ystB_t hB
  exact ⟨rfl, rfl, fun _ _ => rfl, fun i hi => Nar.self (h3 i hi).2.1, Nar.self h4.2.1, Nar.self h5.2.1, Nar.self h6.2.1⟩
/-- what is true lies within a vat's spans -/
structure Tru (v : Vat) (s e p g t : Int) : Prop where
  s : v.sl ≤ s ∧ s ≤ v.sh
  e : v.el ≤ e ∧ e ≤ v.eh
  p : v.pl ≤ p ∧ p ≤ v.ph
  g : v.gl ≤ g ∧ g ≤ v.gh
  t : v.tl ≤ t ∧ t ≤ v.th
/-- an integer of the thousandths of n that a span gives -/
def Share (n lo hi x : Int) : Prop := (n * lo + 999) / 1000 ≤ x ∧ x ≤ n * hi / 1000
theorem Share.bounds {n lo hi x : Int} (h : Share n lo hi x) : n * lo ≤ 1000 * x ∧ 1000 * x ≤ n * hi := by
  unfold Share at h
  omega
theorem low_true {a b c d x : Int} (h0 : 0 ≤ a) (h1 : a ≤ b) (h2 : 0 ≤ c) (h3 : c ≤ d) (h : b * d ≤ 1000 * x) : a * c / 1000 ≤ x := by
  have := mul_nar h0 h1 h2 h3
  omega
theorem high_true {a b c d x : Int} (h0 : 0 ≤ a) (h1 : a ≤ b) (h2 : 0 ≤ c) (h3 : c ≤ d) (h : 1000 * x ≤ a * c) : x ≤ upI (b * d) 1000 := by
  have := mul_nar h0 h1 h2 h3
  unfold upI
  omega
theorem true_step {y : Yst} {v : Vat} (hB : ystB y = true) (hv : vatB v = true) {s e p g t cl ch : Int} (h : Tru v s e p g t) {eat made out warm cool : Int}
    (h1 : Share s (y.rl t t) (y.rh t t) eat) (h2 : Share eat y.sl y.sh made) (h3 : Share eat y.gl y.gh out)
    (h4 : (eat * y.hl * 1000 + v.c - 1) / v.c ≤ warm ∧ warm ≤ eat * y.hh * 1000 / v.c) (h5 : cl ≤ cool ∧ cool ≤ ch) :
    Tru (y.hour v cl ch) (s - eat) (e + eat) (p + made) (g + out) (t + (warm - cool)) ∧ (y.ga v ≤ out ∧ out ≤ y.gb v) := by
  obtain ⟨-, -, -, -, ⟨y1, y2, y3⟩, ⟨y4, y5, y6⟩, y7, y8, y9⟩ := ystB_t hB
  obtain ⟨⟨v1, v2, v3⟩, -, -, -, -, ⟨v4, v5, v6⟩, v7, v8⟩ := vatB_t hv
  obtain ⟨e2, p2, g2, w2, s2, q2⟩ := hour_range hB hv
  obtain ⟨r1, r2, r3⟩ := rate_range hB v5
  obtain ⟨r4, r5, r6⟩ := rate_range hB (tl := t) (th := t) (Int.le_refl _)
  obtain ⟨r7, r8⟩ := rate_nar (YNar.self hB) hB (tl := t) (th := t) (sl := v.tl) (sh := v.th) ⟨h.t.1, Int.le_refl _, h.t.2⟩
  obtain ⟨⟨s0, s1⟩, ⟨e0, e1⟩, ⟨p0, p1⟩, ⟨g0, g1⟩, ⟨t0, t1⟩⟩ := h
  obtain ⟨b1, b2⟩ := h1.bounds
  obtain ⟨b3, b4⟩ := h2.bounds
  obtain ⟨b5, b6⟩ := h3.bounds
  have EA : y.ea v ≤ eat := low_true v1 s0 r1 r7 b1
  have EB : eat ≤ y.eb v := high_true (by omega) s1 (by omega) r8 b2
  have PA : y.pa v ≤ made := low_true e2.1 EA y1 (Int.le_refl _) b3
  have PB : made ≤ y.pb v := high_true (by omega) EB (by omega) (Int.le_refl _) b4
  have GA : y.ga v ≤ out := low_true e2.1 EA y4 (Int.le_refl _) b5
  have GB : out ≤ y.gb v := high_true (by omega) EB (by omega) (Int.le_refl _) b6
  have SA : y.sa v ≤ s - eat := low_true v1 s0 (show 0 ≤ 1000 - y.rh v.tl v.th by omega) (show 1000 - y.rh v.tl v.th ≤ 1000 - y.rh t t by omega) (by rw [Int.mul_sub, Int.mul_sub]; omega)
  have SB : s - eat ≤ y.sb v := high_true (show 0 ≤ s by omega) s1 (show 0 ≤ 1000 - y.rl t t by omega) (show 1000 - y.rl t t ≤ 1000 - y.rl v.tl v.th by omega) (by rw [Int.mul_sub, Int.mul_sub]; omega)
  have k1 := mul_nar e2.1 EA y7 (Int.le_refl y.hl)
  have k2 := mul_nar (show 0 ≤ eat by omega) EB (show 0 ≤ y.hh by omega) (Int.le_refl y.hh)
  have WA : y.wa v ≤ warm := by
    refine Int.le_trans ?_ h4.1
    show y.ea v * y.hl * 1000 / v.c ≤ _
    exact Int.ediv_le_ediv (by omega) (by omega)
  have WB : warm ≤ y.wb v := by
    refine Int.le_trans h4.2 ?_
    show _ ≤ upI (y.eb v * y.hh * 1000) v.c
    unfold upI
    exact Int.ediv_le_ediv (by omega) (by omega)
  refine ⟨⟨⟨SA, SB⟩, ⟨?_, ?_⟩, ⟨?_, ?_⟩, ⟨?_, ?_⟩, ⟨?_, ?_⟩⟩, GA, GB⟩ <;> simp only [Yst.hour] <;> omega
end Go.Proofs.Ytecbacbecopbeaa
