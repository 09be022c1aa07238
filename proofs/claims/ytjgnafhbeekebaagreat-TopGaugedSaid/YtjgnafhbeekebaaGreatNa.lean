/- Plain: what is read of a true strength between two numbers, and of a true volume between two others. No conditions beyond each theorem's own. -/
import Derived.Test.YtjgnafhbeekebaaGreatLj
import Derived.Test.YtjgnafhbeekebaaGreatLl
set_option linter.unusedVariables false
set_option linter.unusedSimpArgs false
set_option linter.unusedSectionVars false
set_option linter.constructorNameAsVariable false
namespace Go.Proofs.YtjgnafhbeekebaaGreat.L1
open Go.RowKit
open Go.Proofs.YtjgnafhbeekebaaGreat

theorem eqF_flr {x y : Fr} (hx : 1 ≤ x.d) (hy : 1 ≤ y.d) (h : eqF x y) : x.flr = y.flr :=
  Int.le_antisymm (flr_mono hx hy (eqF_le h).1) (flr_mono hy hx (eqF_le h).2)
theorem eqF_cei {x y : Fr} (hx : 1 ≤ x.d) (hy : 1 ≤ y.d) (h : eqF x y) : x.cei = y.cei :=
  Int.le_antisymm (cei_mono hx hy (eqF_le h).1) (cei_mono hy hx (eqF_le h).2)
theorem Tab.t_fitS {t : Tab} {lo hi : Int} (h : t.tb.FitS lo hi) : t.fitS lo hi = true := spanB_t.2 ⟨h.a, h.b, h.c⟩
section
variable {t : Tab} {tlo thi x a b : Int}
/-- where two true strengths are, if what is shown is within what the lesser and the greater show -/
theorem str_two (g : t.Good) (hok : t.okB = true) (hT : t.fitT tlo thi = true) (x0 : tlo ≤ x) (x1 : x ≤ thi) (y0 : t.S 0 ≤ a) (ab : a ≤ b) (y1 : b ≤ t.S (t.nS - 1)) :
    t.strE (t.valM t.H x a).flr (t.valM t.H x b).cei tlo thi = 0 ∧ t.strL (t.valM t.H x a).flr (t.valM t.H x b).cei tlo thi ≤ a ∧ b ≤ t.strH (t.valM t.H x a).flr (t.valM t.H x b).cei tlo thi ∧
      t.tb.FitS (t.strL (t.valM t.H x a).flr (t.valM t.H x b).cei tlo thi) (t.strH (t.valM t.H x a).flr (t.valM t.H x b).cei tlo thi) := by
  have ft := Tab.fitT_t hT
  have fta := ft.a
  have ftc := ft.c
  simp only [Tab.tb] at fta ftc
  have fa : t.tb.FitS a a := ⟨y0, Int.le_refl _, by show a ≤ t.S (t.nS - 1); omega⟩
  have fb : t.tb.FitS b b := ⟨by show t.S 0 ≤ b; omega, Int.le_refl _, y1⟩
  have da := hval_d g t.H x a
  have db := hval_d g t.H x b
  have ca := flr_le_cei da
  have mn : leF (t.valM t.H x a) (t.valM t.H x b) := val_mono' (M := t.H.M) g.ok.rT g.ok.rS g.ok.t2 g.ok.s2 g.ok.rH (by simp only [Tab.tb]; omega) (by simp only [Tab.tb]; omega) y0 ab y1
  have cc := cei_mono da db mn
  obtain ⟨lo, hlo⟩ : ∃ c, (t.valM t.H x a).flr = c := ⟨_, rfl⟩
  obtain ⟨hi, hhi⟩ : ∃ c, (t.valM t.H x b).cei = c := ⟨_, rfl⟩
  have hd1 : (1 : Int) ≤ (ofI lo).d := by show (1 : Int) ≤ 1; omega
  have hd2 : (1 : Int) ≤ (ofI hi).d := by show (1 : Int) ≤ 1; omega
  have a1 : leF (ofI lo) (t.tb.seeH tlo thi a) := leF_trans hd1 da (g.ok.seeH_d _ _ _) ((ofI_le da).2 (by omega)) (high_all g t.H ft fa x0 x1 (Int.le_refl _) (Int.le_refl _))
  have b2 : leF (t.tb.seeL tlo thi b) (ofI hi) := leF_trans (g.ok.seeL_d _ _ _) db hd2 (low_all g t.H ft fb x0 x1 (Int.le_refl _) (Int.le_refl _)) ((le_ofI db).2 (by omega))
  have b1 : leF (ofI lo) (t.tb.seeH tlo thi b) := leF_trans hd1 (g.ok.seeH_d _ _ _) (g.ok.seeH_d _ _ _) a1 (g.ok.seeH_mono ft y0 ab y1)
  have a2 : leF (t.tb.seeL tlo thi a) (ofI hi) := leF_trans (g.ok.seeL_d _ _ _) (g.ok.seeL_d _ _ _) hd2 (g.ok.seeL_mono ft y0 ab y1) b2
  obtain ⟨n, f, -⟩ := g.ok.str_has ft (s := a) y0 (by show a ≤ t.S (t.nS - 1); omega) a1 a2
  obtain ⟨-, -, p⟩ := g.ok.str_has ft (s := b) (by show t.S 0 ≤ b; omega) y1 b1 b2
  rw [hlo, hhi]
  have e := Tab.strE_ok hok (show lo ≤ hi by omega) hT n
  have eL : t.strL lo hi tlo thi = t.tb.strLo lo tlo thi := if_pos e
  have eH : t.strH lo hi tlo thi = t.tb.strHi hi tlo thi := if_pos e
  have l1 := Tb.strLo_le (t := t.tb) (lo := lo) (tlo := tlo) (thi := thi)
  have l2 := Tb.le_strHi (t := t.tb) (hi := hi) (tlo := tlo) (thi := thi)
  have l3 := Tb.strHi_last n
  refine ⟨e, by omega, by omega, ⟨?_, ?_, ?_⟩⟩
  · rw [eL]; exact l1.2.2
  · omega
  · rw [eH]; exact l3
/-- the room of two strengths at one temperature -/
theorem room_two (g : t.Good) (x0 : t.T 0 ≤ x) (x1 : x ≤ t.T (t.nT - 1)) (y0 : t.S 0 ≤ a) (ab : a ≤ b) (y1 : b ≤ t.S (t.nS - 1)) :
    (900000 ≤ (t.rlow t.R a b x x).flr ∧ (t.rlow t.R a b x x).flr ≤ (t.valM t.R x a).flr) ∧ (t.valM t.R x a).cei ≤ (t.rhigh t.R a b x x).cei ∧ (t.rhigh t.R a b x x).cei ≤ 1100000 := by
  have ft : t.tb.FitT x x := ⟨x0, Int.le_refl _, x1⟩
  have fs : t.tb.FitS a b := ⟨y0, ab, y1⟩
  have d1 := low_d g t.R a b x x
  have d2 := high_d g t.R a b x x
  have d3 := hval_d g t.R x a
  have i1 : 1 ≤ (t.rlow t.R a b x x).d := (lowR_is (M := t.R.M) (tlo := x) (thi := x) (slo := a) (shi := b) g.ok.rT g.ok.rS g.ok.t2 g.ok.s2).d g.ok.rT g.ok.rS g.ok.t2 g.ok.s2
  have i2 : 1 ≤ (t.rhigh t.R a b x x).d := (highR_is (M := t.R.M) (tlo := x) (thi := x) (slo := a) (shi := b) g.ok.rT g.ok.rS g.ok.t2 g.ok.s2).d g.ok.rT g.ok.rS g.ok.t2 g.ok.s2
  rw [eqF_flr i1 d1 (rlow_eq g), eqF_cei i2 d2 (rhigh_eq g)]
  obtain ⟨l1, -, -, -⟩ := g.ok.lowV_range ft fs
  obtain ⟨-, k2, -, -⟩ := g.ok.highV_range ft fs
  exact ⟨⟨(ofI_le d1).1 l1, flr_mono d1 d3 (low_all g t.R ft fs (Int.le_refl _) (Int.le_refl _) (Int.le_refl _) ab)⟩, cei_mono d3 d2 (high_all g t.R ft fs (Int.le_refl _) (Int.le_refl _) (Int.le_refl _) ab), (le_ofI d2).1 k2⟩
/-- the amount that an instrument is given, between two true volumes -/
theorem amount_two {V U le mo : Int} (h0 : 0 ≤ V) (h1 : V ≤ U) (h2 : U ≤ 1000000) (f0 : 900000 ≤ le) (fc : le ≤ mo) (f1 : mo ≤ 1100000) :
    0 ≤ V * le / 1000000 ∧ V * le / 1000000 ≤ upI (U * mo) 1000000 ∧ upI (U * mo) 1000000 ≤ 1100000 ∧ V * le / 1000000 * 1000000 ≤ V * le ∧ U * mo ≤ upI (U * mo) 1000000 * 1000000 := by
  have p0 := Int.mul_nonneg h0 (show 0 ≤ le by omega)
  have p1 := Int.mul_le_mul h1 fc (by omega) (by omega)
  have p2 := Int.mul_le_mul h2 f1 (by omega) (by omega)
  unfold upI
  omega
/-- what Measured returns for what an instrument reads of a strength between a and b, and of a volume between V and U -/
theorem gauge_plain {V U : Int} (g : t.Good) (hok : t.okB = true) (hT : t.fitT tlo thi = true) (x0 : tlo ≤ x) (x1 : x ≤ thi) (y0 : t.S 0 ≤ a) (ab : a ≤ b) (y1 : b ≤ t.S (t.nS - 1)) (h0 : 0 ≤ V) (h1 : V ≤ U) (h2 : U ≤ 1000000) :
    t.meE (V * (t.rlow t.R a b x x).flr / 1000000) (upI (U * (t.rhigh t.R a b x x).cei) 1000000) (t.valM t.H x a).flr (t.valM t.H x b).cei tlo thi = 0 ∧
      ∃ m : Me, t.meV (V * (t.rlow t.R a b x x).flr / 1000000) (upI (U * (t.rhigh t.R a b x x).cei) 1000000) (t.valM t.H x a).flr (t.valM t.H x b).cei tlo thi = m ∧
      (0 ≤ m.vl ∧ m.vl ≤ V) ∧ (U ≤ m.vh ∧ m.vh ≤ 2147483) ∧ (0 ≤ m.sl ∧ m.sl ≤ a) ∧ (b ≤ m.sh ∧ m.sh ≤ 10000) := by
  have ft := Tab.fitT_t hT
  have fta := ft.a
  have ftc := ft.c
  simp only [Tab.tb] at fta ftc
  have dR := hval_d g t.R x a
  obtain ⟨⟨r0, r1⟩, r2, r3⟩ := room_two g (x := x) (by omega) (by omega) y0 ab y1
  have rc := flr_le_cei dR
  obtain ⟨a0, a1, a2, a3, a4⟩ := amount_two (le := (t.rlow t.R a b x x).flr) (mo := (t.rhigh t.R a b x x).cei) h0 h1 h2 r0 (by omega) r3
  obtain ⟨e1, e2, e3, e4⟩ := str_two g hok hT x0 x1 y0 ab y1
  have hS := Tab.t_fitS e4
  obtain ⟨le, hle⟩ : ∃ c, (t.rlow t.R a b x x).flr = c := ⟨_, rfl⟩
  obtain ⟨mo, hmo⟩ : ∃ c, (t.rhigh t.R a b x x).cei = c := ⟨_, rfl⟩
  rw [hle] at a0 a1 a3 r0 r1 ⊢
  rw [hmo] at a1 a2 a4 r2 r3 ⊢
  obtain ⟨alo, halo⟩ : ∃ c, V * le / 1000000 = c := ⟨_, rfl⟩
  obtain ⟨ahi, hahi⟩ : ∃ c, upI (U * mo) 1000000 = c := ⟨_, rfl⟩
  rw [halo] at a0 a1 a3 ⊢
  rw [hahi] at a1 a2 a4 ⊢
  have sp : spanB alo ahi 0 1099511627776 = true := spanB_t.2 ⟨a0, a1, by omega⟩
  have hB : t.meB alo ahi = true := by unfold Tab.meB; rw [hok, sp]; rfl
  obtain ⟨s0, s1, s2, s3⟩ := str_range e1
  obtain ⟨sl, hsl⟩ : ∃ c, t.strL (t.valM t.H x a).flr (t.valM t.H x b).cei tlo thi = c := ⟨_, rfl⟩
  obtain ⟨sh, hsh⟩ : ∃ c, t.strH (t.valM t.H x a).flr (t.valM t.H x b).cei tlo thi = c := ⟨_, rfl⟩
  rw [hsl, hsh] at e4 hS s3 s1
  rw [hsl] at e2 s0
  rw [hsh] at e3 s2
  obtain ⟨l1, l2, l3, l4⟩ := g.ok.lowV_range ft e4
  obtain ⟨k1, k2, k3, k4⟩ := g.ok.highV_range ft e4
  have ll := low_all g t.R ft e4 x0 x1 e2 (show a ≤ sh by omega)
  have hh := high_all g t.R ft e4 x0 x1 e2 (show a ≤ sh by omega)
  have eLow : t.low t.R sl sh tlo thi = t.tb.lowV sl sh tlo thi := rfl
  have eHigh : t.high t.R sl sh tlo thi = t.tb.highV sl sh tlo thi := rfl
  rw [eLow] at ll
  rw [eHigh] at hh
  have one (c : Int) : (1 : Int) ≤ (ofI c).d := by show (1 : Int) ≤ 1; omega
  have ub := leF_trans l3 dR (one mo) ll ((le_ofI dR).2 r2)
  have lb := leF_trans (one le) dR k3 ((ofI_le dR).2 r1) hh
  obtain ⟨lw, hlw⟩ : ∃ v, t.tb.lowV sl sh tlo thi = v := ⟨_, rfl⟩
  obtain ⟨hg, hhg⟩ : ∃ v, t.tb.highV sl sh tlo thi = v := ⟨_, rfl⟩
  rw [hlw] at l1 l3 l4 ub
  rw [hhg] at k3 k4 lb
  unfold leF ofI at ub lb l1
  simp only [Int.mul_one] at ub lb l1
  have w1 : (volF alo hg).flr ≤ V := volLo_le k4 (by
    have q1 := Int.mul_le_mul_of_nonneg_right a3 (show 0 ≤ hg.d by omega)
    have q2 := Int.mul_le_mul_of_nonneg_left lb h0
    rw [Int.mul_assoc] at q1
    rw [show alo * 1000000 * hg.d = alo * (1000000 * hg.d) from Int.mul_assoc _ _ _]
    rw [show V * le * hg.d = V * (le * hg.d) from Int.mul_assoc _ _ _] at q1
    omega)
  have w2 : U ≤ (volF ahi lw).cei := le_volHi l4 (by
    have q1 := Int.mul_le_mul_of_nonneg_right a4 (show 0 ≤ lw.d by omega)
    have q2 := Int.mul_le_mul_of_nonneg_left ub (show 0 ≤ U by omega)
    rw [show U * mo * lw.d = U * (mo * lw.d) from Int.mul_assoc _ _ _] at q1
    omega)
  have w3 : (volF ahi lw).cei ≤ 1222223 := volHi_le l4 (by
    have q := Int.mul_le_mul_of_nonneg_right (show ahi * 1000000 ≤ 1222223 * 900000 by omega) (show 0 ≤ lw.d by omega)
    have q2 := Int.mul_le_mul_of_nonneg_left l1 (show (0 : Int) ≤ 1222223 by omega)
    rw [Int.mul_assoc 1222223 900000 lw.d] at q
    omega)
  have vE : t.voE alo ahi sl sh tlo thi = 0 := by
    rw [Tab.voE_ok hok sp hS hT]
    refine if_pos ?_
    unfold Tb.volHi; rw [hlw]; omega
  have vL : t.voLo alo ahi sl sh tlo thi = (volF alo hg).flr := by unfold Tab.voLo; rw [if_pos vE]; unfold Tb.volLo; rw [hhg]
  have vH : t.voHi alo ahi sl sh tlo thi = (volF ahi lw).cei := by unfold Tab.voHi; rw [if_pos vE]; unfold Tb.volHi; rw [hlw]
  obtain ⟨vr0, vr1, vr2⟩ := vo_range vE
  rw [vL] at vr0 vr1
  rw [vH] at vr1 vr2
  have mE : t.meE alo ahi (t.valM t.H x a).flr (t.valM t.H x b).cei tlo thi = 0 := by unfold Tab.meE; rw [if_pos hB, if_pos e1, hsl, hsh]; exact vE
  exact ⟨mE, _, by unfold Tab.meV; rw [if_pos mE, hsl, hsh, vL, vH], ⟨vr0, w1⟩, ⟨w2, Int.le_trans w3 (by omega)⟩, ⟨s0, e2⟩, e3, s2⟩
end
end Go.Proofs.YtjgnafhbeekebaaGreat.L1
