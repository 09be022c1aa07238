/- Plain laws: what was measured contains what is true. No conditions beyond each theorem's own. -/
import Derived.Test.YtohcopdfdmjhnaaTe
import Derived.Test.YtohcopdfdmjhnaaUd
import Derived.Test.YtohcopdfdmjhnaaTa
set_option linter.unusedVariables false
set_option linter.unusedSimpArgs false
set_option linter.unusedSectionVars false
set_option linter.constructorNameAsVariable false
namespace Go.Proofs.Ytohcopdfdmjhnaa.L1
open Go.RowKit
open Go.Proofs.Ytohcopdfdmjhnaa

attribute [local go_sem] gw_cell gw_frozen gw_size

section
variable {t : Tab} {tlo thi x y lo hi V : Int}
/-- the amount that is measured -/
def amLo (V : Int) (v : Fr) : Int := V * v.flr / 1000000
def amHi (V : Int) (v : Fr) : Int := upI (V * v.cei) 1000000
theorem am_range {v : Fr} (h0 : 0 ≤ V) (h1 : V ≤ 999999) (f0 : 900000 ≤ v.flr) (fc : v.flr ≤ v.cei) (f1 : v.cei ≤ 1100000) :
    0 ≤ amLo V v ∧ amLo V v ≤ amHi V v ∧ amHi V v ≤ 1100000 ∧ amLo V v * 1000000 ≤ V * v.flr ∧ V * v.cei ≤ amHi V v * 1000000 := by
  have p0 := Int.mul_nonneg h0 (show 0 ≤ v.flr by omega)
  have p1 := Int.mul_le_mul_of_nonneg_left fc h0
  have p2 := Int.mul_le_mul h1 f1 (by omega) (by omega)
  unfold amLo amHi upI
  omega
theorem volLo_le {a : Int} {v : Fr} (hn : 1 ≤ v.n) (h : a * 1000000 * v.d ≤ V * v.n) : (volF a v).flr ≤ V := by
  unfold volF Fr.flr
  have := Int.ediv_le_ediv (show 0 < v.n by omega) h
  rwa [Int.mul_ediv_cancel _ (show v.n ≠ 0 by omega)] at this
theorem le_volHi {a : Int} {v : Fr} (hn : 1 ≤ v.n) (h : V * v.n ≤ a * 1000000 * v.d) : V ≤ (volF a v).cei := by
  have h2 : leF (ofI V) (volF a v) := by unfold leF ofI volF; simp only; rw [Int.mul_one]; exact h
  exact Int.le_trans ((ofI_le (by show 1 ≤ v.n; exact hn)).1 h2) (flr_le_cei (by show 1 ≤ v.n; exact hn))
theorem volHi_le {a c : Int} {v : Fr} (hn : 1 ≤ v.n) (h : a * 1000000 * v.d ≤ c * v.n) : (volF a v).cei ≤ c := by
  have h2 : leF (volF a v) (ofI c) := by unfold leF ofI volF; simp only; rw [Int.mul_one]; exact h
  exact (le_ofI (by show 1 ≤ v.n; exact hn)).1 h2
/-- what Measured returns for what was rightly measured -/
theorem true_plain (g : t.Good) (hok : t.okB = true) (hT : t.fitT tlo thi = true) (x0 : tlo ≤ x) (x1 : x ≤ thi) (y0 : t.S 0 ≤ y) (y1 : y ≤ t.S (t.nS - 1)) (h0 : 0 ≤ V) (h1 : V ≤ 999999) :
    ∃ m : Me, t.meE (amLo V (t.valM t.R x y)) (amHi V (t.valM t.R x y)) (t.valM t.H x y).flr (t.valM t.H x y).cei tlo thi = 0 ∧ t.meV (amLo V (t.valM t.R x y)) (amHi V (t.valM t.R x y)) (t.valM t.H x y).flr (t.valM t.H x y).cei tlo thi = m ∧
      m.vl ≤ V ∧ V ≤ m.vh ∧ m.sl ≤ y ∧ y ≤ m.sh ∧ (0 ≤ m.pl ∧ m.pl ≤ 1099511627776 ∧ m.pl * 10000 ≤ V * y) ∧ 0 ≤ m.ph ∧ m.ph ≤ 1099511627776 ∧ V * y ≤ m.ph * 10000 := by
  have ft := Tab.fitT_t hT
  have fta := ft.a
  have ftc := ft.c
  simp only [Tab.tb] at fta ftc
  have dR := hval_d g t.R x y
  obtain ⟨r0, r1⟩ := rval_range g (x := x) (y := y) (by omega) (by omega) y0 y1
  have rc := flr_le_cei dR
  obtain ⟨a0, a1, a2, a3, a4⟩ := am_range h0 h1 r0 rc r1
  obtain ⟨e1, e2, e3, e4⟩ := str_true g hok hT x0 x1 y0 y1 (Int.le_refl _) (Int.le_refl _)
  have hS := Tab.t_fitS e4
  obtain ⟨alo, halo⟩ : ∃ a, amLo V (t.valM t.R x y) = a := ⟨_, rfl⟩
  obtain ⟨ahi, hahi⟩ : ∃ a, amHi V (t.valM t.R x y) = a := ⟨_, rfl⟩
  rw [halo] at a0 a1 a3
  rw [hahi] at a1 a2 a4
  rw [halo, hahi]
  have sp : spanB alo ahi 0 1099511627776 = true := spanB_t.2 ⟨a0, a1, by omega⟩
  have hB : t.meB alo ahi = true := by unfold Tab.meB; rw [hok, sp]; rfl
  obtain ⟨s0, s1, s2, s3⟩ := str_range e1
  obtain ⟨sl, hsl⟩ : ∃ a, t.strL (t.valM t.H x y).flr (t.valM t.H x y).cei tlo thi = a := ⟨_, rfl⟩
  obtain ⟨sh, hsh⟩ : ∃ a, t.strH (t.valM t.H x y).flr (t.valM t.H x y).cei tlo thi = a := ⟨_, rfl⟩
  rw [hsl, hsh] at e4 hS s3 s1
  rw [hsl] at e2 s0
  rw [hsh] at e3 s2
  obtain ⟨l1, l2, l3, l4⟩ := g.ok.lowV_range ft e4
  obtain ⟨k1, k2, k3, k4⟩ := g.ok.highV_range ft e4
  have ll := low_all g t.R ft e4 x0 x1 e2 e3
  have hh := high_all g t.R ft e4 x0 x1 e2 e3
  have eLow : t.low t.R sl sh tlo thi = t.tb.lowV sl sh tlo thi := rfl
  have eHigh : t.high t.R sl sh tlo thi = t.tb.highV sl sh tlo thi := rfl
  rw [eLow] at ll
  rw [eHigh] at hh
  have one (c : Int) : (1 : Int) ≤ (ofI c).d := by show (1 : Int) ≤ 1; omega
  have ub := leF_trans l3 dR (one _) ll ((le_ofI dR).2 (Int.le_refl _))
  have lb := leF_trans (one _) dR k3 ((ofI_le dR).2 (Int.le_refl _)) hh
  obtain ⟨lw, hlw⟩ : ∃ v, t.tb.lowV sl sh tlo thi = v := ⟨_, rfl⟩
  obtain ⟨hg, hhg⟩ : ∃ v, t.tb.highV sl sh tlo thi = v := ⟨_, rfl⟩
  rw [hlw] at l1 l3 l4 ub
  rw [hhg] at k3 k4 lb
  unfold leF ofI at ub lb l1
  simp only [Int.mul_one] at ub lb l1
  have w1 : (volF alo hg).flr ≤ V := volLo_le k4 (by
    have q1 := Int.mul_le_mul_of_nonneg_right a3 (show 0 ≤ hg.d by omega)
    have q2 := Int.mul_le_mul_of_nonneg_left lb h0
    rw [Int.mul_assoc] at q1
    rw [show alo * 1000000 * hg.d = alo * (1000000 * hg.d) from Int.mul_assoc _ _ _]
    rw [show V * (t.valM t.R x y).flr * hg.d = V * ((t.valM t.R x y).flr * hg.d) from Int.mul_assoc _ _ _] at q1
    omega)
  have w2 : V ≤ (volF ahi lw).cei := le_volHi l4 (by
    have q1 := Int.mul_le_mul_of_nonneg_right a4 (show 0 ≤ lw.d by omega)
    have q2 := Int.mul_le_mul_of_nonneg_left ub h0
    rw [show V * (t.valM t.R x y).cei * lw.d = V * ((t.valM t.R x y).cei * lw.d) from Int.mul_assoc _ _ _] at q1
    omega)
  have w3 : (volF ahi lw).cei ≤ 2 * ahi := volHi_le l4 (by
    have q := Int.mul_le_mul_of_nonneg_left l1 (show 0 ≤ ahi by omega)
    rw [show ahi * 1000000 * lw.d = ahi * (1000000 * lw.d) from Int.mul_assoc _ _ _, show (2 : Int) * ahi * lw.n = ahi * lw.n * 2 by rw [Int.mul_comm 2 ahi, Int.mul_assoc, Int.mul_comm 2 lw.n, ← Int.mul_assoc]]
    have e5 : ahi * (1000000 * lw.d) = ahi * lw.d * 1000000 := by rw [Int.mul_comm 1000000, Int.mul_assoc]
    have e6 : ahi * (900000 * lw.d) = ahi * lw.d * 900000 := by rw [Int.mul_comm 900000, Int.mul_assoc]
    have q3 := Int.mul_nonneg (show 0 ≤ ahi by omega) (show 0 ≤ lw.d by omega)
    rw [e6] at q
    rw [e5]
    omega)
  have vE : t.voE alo ahi sl sh tlo thi = 0 := by
    rw [Tab.voE_ok hok sp hS hT]
    refine if_pos ?_
    unfold Tb.volHi; rw [hlw]; omega
  have vL : t.voLo alo ahi sl sh tlo thi = (volF alo hg).flr := by unfold Tab.voLo; rw [if_pos vE]; unfold Tb.volLo; rw [hhg]
  have vH : t.voHi alo ahi sl sh tlo thi = (volF ahi lw).cei := by unfold Tab.voHi; rw [if_pos vE]; unfold Tb.volHi; rw [hlw]
  obtain ⟨vr0, vr1, vr2⟩ := vo_range vE
  rw [vL] at vr0 vr1
  rw [vH] at vr1 vr2
  have mE : t.meE alo ahi (t.valM t.H x y).flr (t.valM t.H x y).cei tlo thi = 0 := by unfold Tab.meE; rw [if_pos hB, if_pos e1, hsl, hsh]; exact vE
  have py := y0
  have S0 := g.ok.bS 0 (by have := g.ok.s2; omega)
  simp only [Tab.tb] at S0
  refine ⟨_, mE, by unfold Tab.meV; rw [if_pos mE, hsl, hsh, vL, vH], w1, w2, e2, e3, ?_, ?_⟩
  · have p := puLo_le (a := (volF alo hg).flr) (c := sl) vr0 (by omega) s0 (by omega)
    refine ⟨p.1, p.2, ?_⟩
    simp only
    have q1 := Int.mul_le_mul w1 e2 s0 h0
    unfold puLo
    omega
  · have p := puHi_le (b := (volF ahi lw).cei) (d := sh) (by omega) (by omega) (by omega) s2
    refine ⟨p.1, p.2, ?_⟩
    simp only
    have q1 := Int.mul_le_mul w2 e3 (by omega) (by omega)
    unfold puHi upI
    omega
end
end Go.Proofs.Ytohcopdfdmjhnaa.L1
