/- Plain laws of a table: narrower spans; volumes. No conditions beyond each theorem's own. -/
import Derived.Test.YtohcopdfdmjhnaaPc
set_option linter.unusedVariables false
set_option linter.unusedSimpArgs false
set_option linter.unusedSectionVars false
set_option linter.constructorNameAsVariable false
namespace Go.Proofs.Ytohcopdfdmjhnaa.L1
open Go.Proofs.Ytohcopdfdmjhnaa

section
variable {t : Tb} {lo hi tlo thi lo' hi' tlo' thi' s : Int}
theorem one1 (c : Int) : 1 ≤ (ofI c).d := by show (1 : Int) ≤ 1; omega
theorem Tb.Ok.seeH_in (h : t.Ok) (ft : t.FitT tlo thi) (a : tlo ≤ tlo') (ab : tlo' ≤ thi') (b : thi' ≤ thi) (h0 : t.first ≤ s) (h1 : s ≤ t.last) : leF (t.seeH tlo' thi' s) (t.seeH tlo thi s) := by
  obtain ⟨x, y, hx, hy, e⟩ := (h.highH_is s s tlo' thi').at_
  have hy' := mark_one hy
  have hx' := mark_in ab hx
  have := (h.highH_is s s tlo thi).all h.rT h.rS h.t2 h.s2 ft.a ft.c h0 h1 (x := x) (y := s) (by omega) (by omega) (by omega) (by omega)
  have e2 : t.seeH tlo' thi' s = valF t.T t.S t.nT t.nS t.H x s := by rw [hy'] at e; exact e
  rw [e2]; exact this
theorem Tb.Ok.seeL_in (h : t.Ok) (ft : t.FitT tlo thi) (a : tlo ≤ tlo') (ab : tlo' ≤ thi') (b : thi' ≤ thi) (h0 : t.first ≤ s) (h1 : s ≤ t.last) : leF (t.seeL tlo thi s) (t.seeL tlo' thi' s) := by
  obtain ⟨x, y, hx, hy, e⟩ := (h.lowH_is s s tlo' thi').at_
  have hy' := mark_one hy
  have hx' := mark_in ab hx
  have := (h.lowH_is s s tlo thi).all h.rT h.rS h.t2 h.s2 ft.a ft.c h0 h1 (x := x) (y := s) (by omega) (by omega) (by omega) (by omega)
  have e2 : t.seeL tlo' thi' s = valF t.T t.S t.nT t.nS t.H x s := by rw [hy'] at e; exact e
  rw [e2]; exact this
/-- narrower spans have strengths that are not wider -/
theorem Tb.Ok.str_narrower (h : t.Ok) (ft : t.FitT tlo thi) (a : tlo ≤ tlo') (ab : tlo' ≤ thi') (b : thi' ≤ thi) (c : lo ≤ lo') (d : hi' ≤ hi) (hn : t.noneB lo' hi' tlo' thi' = false) :
    t.noneB lo hi tlo thi = false ∧ t.strLo lo tlo thi ≤ t.strLo lo' tlo' thi' ∧ t.strHi hi' tlo' thi' ≤ t.strHi hi tlo thi := by
  obtain ⟨n1, n2⟩ := Tb.noneB_f.1 hn
  have fr0 : t.first ≤ t.from_ lo' tlo' thi' := by unfold Tb.from_; omega
  have fr1 : t.from_ lo' tlo' thi' ≤ t.last := by unfold Tb.from_; exact Tb.cnt_lt.1 n1
  have fat := h.fr_at n1
  have P : leF (ofI lo) (t.seeH tlo thi (t.from_ lo' tlo' thi')) := leF_trans (one1 _) (one1 _) (h.seeH_d _ _ _) (ofI_le_ofI.2 c) (leF_trans (one1 _) (h.seeH_d _ _ _) (h.seeH_d _ _ _) fat (h.seeH_in ft a ab b fr0 fr1))
  have f1 : t.from_ lo tlo thi ≤ t.from_ lo' tlo' thi' := Int.not_lt.1 fun hc => h.fr_below fr0 hc P
  have g1 : t.frN lo tlo thi < t.cnt := Tb.cnt_lt.2 (by unfold Tb.from_ at f1 fr1; omega)
  -- the upper end
  have pl : t.past hi' tlo' thi' - 1 ≤ t.last := by
    have := Tb.cnt_lt.1 (show t.paN hi' tlo' thi' - 1 < t.cnt by have := Tb.paN_le (t := t) (hi := hi') (tlo := tlo') (thi := thi'); omega)
    unfold Tb.past; omega
  have p0 : t.first ≤ t.past hi' tlo' thi' - 1 := by unfold Tb.past; omega
  have pb := h.pa_below (s := t.past hi' tlo' thi' - 1) (hi := hi') (tlo := tlo') (thi := thi') p0 (by omega)
  have Q : leF (t.seeL tlo thi (t.past hi' tlo' thi' - 1)) (ofI hi) := leF_trans (h.seeL_d _ _ _) (one1 _) (one1 _) (leF_trans (h.seeL_d _ _ _) (h.seeL_d _ _ _) (one1 _) (h.seeL_in ft a ab b p0 pl) pb) (ofI_le_ofI.2 d)
  have q1 : t.past hi' tlo' thi' ≤ t.past hi tlo thi := by
    refine Int.not_lt.1 fun hc => ?_
    have l : t.paN hi tlo thi < t.cnt := Tb.cnt_lt.2 (by unfold Tb.past at hc pl; omega)
    refine h.pa_at l (leF_trans (h.seeL_d _ _ _) (h.seeL_d _ _ _) (one1 _) (h.seeL_mono ft ?_ ?_ pl) Q)
    · unfold Tb.past; omega
    · omega
  have hn2 : t.noneB lo hi tlo thi = false := Tb.noneB_f.2 ⟨g1, by unfold Tb.past at p0 q1; omega⟩
  refine ⟨hn2, ?_, ?_⟩
  · have l1 := Tb.strLo_le (t := t) (lo := lo) (tlo := tlo) (thi := thi)
    have l2 := Tb.strLo_le (t := t) (lo := lo') (tlo := tlo') (thi := thi')
    rcases Int.lt_or_eq_of_le f1 with f2 | f2
    · omega
    · by_cases hc : t.first < t.from_ lo' tlo' thi' ∧ ¬ (t.seeH tlo' thi' (t.from_ lo' tlo' thi')).n = lo' * (t.seeH tlo' thi' (t.from_ lo' tlo' thi')).d
      · have e : t.strLo lo tlo thi = t.from_ lo tlo thi - 1 := by
          refine if_pos ⟨by rw [f2]; exact hc.1, fun he => hc.2 (eq_ofI.2 (le_eqF fat ?_))⟩
          rw [f2] at he
          have he2 := (eqF_le (eq_ofI.1 he)).2
          exact leF_trans (h.seeH_d _ _ _) (one1 _) (one1 _) (leF_trans (h.seeH_d _ _ _) (h.seeH_d _ _ _) (one1 _) (h.seeH_in ft a ab b fr0 fr1) he2) (ofI_le_ofI.2 c)
        omega
      · have e : t.strLo lo' tlo' thi' = t.from_ lo' tlo' thi' := if_neg hc
        omega
  · have l1 := Tb.le_strHi (t := t) (hi := hi) (tlo := tlo) (thi := thi)
    have l2 := Tb.le_strHi (t := t) (hi := hi') (tlo := tlo') (thi := thi')
    rcases Int.lt_or_eq_of_le q1 with f2 | f2
    · omega
    · by_cases hc : t.past hi' tlo' thi' - 1 < t.last ∧ ¬ (t.seeL tlo' thi' (t.past hi' tlo' thi' - 1)).n = hi' * (t.seeL tlo' thi' (t.past hi' tlo' thi' - 1)).d
      · have e : t.strHi hi tlo thi = t.past hi tlo thi := by
          refine if_pos ⟨by rw [← f2]; exact hc.1, fun he => hc.2 (eq_ofI.2 (le_eqF ?_ pb))⟩
          rw [← f2] at he
          have he2 := (eqF_le (eq_ofI.1 he)).1
          exact leF_trans (one1 _) (one1 _) (h.seeL_d _ _ _) (ofI_le_ofI.2 d) (leF_trans (one1 _) (h.seeL_d _ _ _) (h.seeL_d _ _ _) he2 (h.seeL_in ft a ab b p0 pl))
        omega
      · have e : t.strHi hi' tlo' thi' = t.past hi' tlo' thi' - 1 := if_neg hc
        omega
end
/-- an amount at 20 degrees, as a fraction -/
def volF (a : Int) (v : Fr) : Fr := ⟨a * 1000000 * v.d, v.n⟩
theorem volF_room {a : Int} {u v : Fr} (ha : 0 ≤ a) (h : leF u v) : leF (volF a v) (volF a u) := by
  unfold leF volF at *
  simp only
  have := Int.mul_le_mul_of_nonneg_left h (show 0 ≤ a * 1000000 by omega)
  have e1 : a * 1000000 * v.d * u.n = a * 1000000 * (u.n * v.d) := by grind
  have e2 : a * 1000000 * u.d * v.n = a * 1000000 * (v.n * u.d) := by grind
  omega
theorem volF_mono {a b : Int} {v : Fr} (hab : a ≤ b) (hd : 1 ≤ v.d) (hn : 1 ≤ v.n) : leF (volF a v) (volF b v) := by
  unfold leF volF
  simp only
  exact Int.mul_le_mul_of_nonneg_right (Int.mul_le_mul_of_nonneg_right (by omega) (by omega)) (by omega)
theorem volF_eq {a : Int} {u v : Fr} (ha : 0 ≤ a) (h : eqF u v) : eqF (volF a u) (volF a v) := le_eqF (volF_room ha (eqF_le h).2) (volF_room ha (eqF_le h).1)
theorem pos_of_le {c : Int} {v : Fr} (hc : 1 ≤ c) (hd : 1 ≤ v.d) (h : leF (ofI c) v) : 1 ≤ v.n := by
  unfold leF ofI at h
  simp only [Int.mul_one] at h
  have := Int.mul_le_mul hc hd (by omega) (by omega)
  omega
section
variable {t : Tb} {slo shi tlo thi : Int}
theorem Tb.Ok.rv_range (h : t.Ok) {x y : Int} (x0 : t.T 0 ≤ x) (x1 : x ≤ t.T (t.nT - 1)) (y0 : t.S 0 ≤ y) (y1 : y ≤ t.S (t.nS - 1)) : leF (ofI 900000) (t.rv x y) ∧ leF (t.rv x y) (ofI 1100000) :=
  val_range (M := t.R) h.rT h.rS h.t2 h.s2 x0 x1 y0 y1 h.bR
theorem Tb.Ok.lowV_range (h : t.Ok) (ft : t.FitT tlo thi) (fs : t.FitS slo shi) : leF (ofI 900000) (t.lowV slo shi tlo thi) ∧ leF (t.lowV slo shi tlo thi) (ofI 1100000) ∧ 1 ≤ (t.lowV slo shi tlo thi).d ∧ 1 ≤ (t.lowV slo shi tlo thi).n := by
  obtain ⟨x, y, hx, hy, e⟩ := (h.lowV_is slo shi tlo thi).at_
  have hx' := mark_in ft.b hx
  have hy' := mark_in fs.b hy
  have fa := ft.a
  have fc := ft.c
  have ga := fs.a
  have gc := fs.c
  obtain ⟨r1, r2⟩ := h.rv_range (x := x) (y := y) (by omega) (by omega) (by omega) (by omega)
  have d := h.rd x y
  unfold Tb.rv at r1 r2 d
  rw [← e] at r1 r2 d
  exact ⟨r1, r2, d, pos_of_le (by omega) d r1⟩
theorem Tb.Ok.highV_range (h : t.Ok) (ft : t.FitT tlo thi) (fs : t.FitS slo shi) : leF (ofI 900000) (t.highV slo shi tlo thi) ∧ leF (t.highV slo shi tlo thi) (ofI 1100000) ∧ 1 ≤ (t.highV slo shi tlo thi).d ∧ 1 ≤ (t.highV slo shi tlo thi).n := by
  obtain ⟨x, y, hx, hy, e⟩ := (h.highV_is slo shi tlo thi).at_
  have hx' := mark_in ft.b hx
  have hy' := mark_in fs.b hy
  have fa := ft.a
  have fc := ft.c
  have ga := fs.a
  have gc := fs.c
  obtain ⟨r1, r2⟩ := h.rv_range (x := x) (y := y) (by omega) (by omega) (by omega) (by omega)
  have d := h.rd x y
  unfold Tb.rv at r1 r2 d
  rw [← e] at r1 r2 d
  exact ⟨r1, r2, d, pos_of_le (by omega) d r1⟩
end
/-- the volumes -/
def Tb.volLo (t : Tb) (a slo shi tlo thi : Int) : Int := (volF a (t.highV slo shi tlo thi)).flr
def Tb.volHi (t : Tb) (a slo shi tlo thi : Int) : Int := (volF a (t.lowV slo shi tlo thi)).cei
section
variable {t : Tb} {a b a' b' slo shi tlo thi slo' shi' tlo' thi' : Int}
theorem Tb.Ok.vol_narrower (h : t.Ok) (ft : t.FitT tlo thi) (fs : t.FitS slo shi) (ft' : t.FitT tlo' thi') (fs' : t.FitS slo' shi') (p1 : tlo ≤ tlo') (p2 : thi' ≤ thi) (q1 : slo ≤ slo') (q2 : shi' ≤ shi) (a0 : 0 ≤ a) (a1 : a ≤ a') (b1 : b' ≤ b) (ab : a' ≤ b') :
    t.volLo a slo shi tlo thi ≤ t.volLo a' slo' shi' tlo' thi' ∧ t.volHi b' slo' shi' tlo' thi' ≤ t.volHi b slo shi tlo thi := by
  have fa := ft.a
  have fc := ft.c
  have ga := fs.a
  have gc := fs.c
  obtain ⟨_, _, d1, n1⟩ := h.highV_range ft fs
  obtain ⟨_, _, d2, n2⟩ := h.highV_range ft' fs'
  obtain ⟨_, _, d3, n3⟩ := h.lowV_range ft fs
  obtain ⟨_, _, d4, n4⟩ := h.lowV_range ft' fs'
  have e1 : leF (t.highV slo' shi' tlo' thi') (t.highV slo shi tlo thi) := by
    obtain ⟨x, y, hx, hy, e⟩ := (h.highV_is slo' shi' tlo' thi').at_
    have hx' := mark_in ft'.b hx
    have hy' := mark_in fs'.b hy
    rw [e]
    exact (h.highV_is slo shi tlo thi).all h.rT h.rS h.t2 h.s2 ft.a ft.c fs.a fs.c (by omega) (by omega) (by omega) (by omega)
  have e2 : leF (t.lowV slo shi tlo thi) (t.lowV slo' shi' tlo' thi') := by
    obtain ⟨x, y, hx, hy, e⟩ := (h.lowV_is slo' shi' tlo' thi').at_
    have hx' := mark_in ft'.b hx
    have hy' := mark_in fs'.b hy
    rw [e]
    exact (h.lowV_is slo shi tlo thi).all h.rT h.rS h.t2 h.s2 ft.a ft.c fs.a fs.c (by omega) (by omega) (by omega) (by omega)
  exact ⟨flr_mono n1 n2 (leF_trans n1 n2 n2 (volF_room a0 e1) (volF_mono a1 d2 n2)), cei_mono n4 n3 (leF_trans n4 n4 n3 (volF_mono b1 d4 n4) (volF_room (by omega) e2))⟩
theorem Tb.Ok.vol_le (h : t.Ok) (ft : t.FitT tlo thi) (fs : t.FitS slo shi) (a0 : 0 ≤ a) (ab : a ≤ b) : t.volLo a slo shi tlo thi ≤ t.volHi b slo shi tlo thi := by
  obtain ⟨_, _, d1, n1⟩ := h.highV_range ft fs
  obtain ⟨_, _, d3, n3⟩ := h.lowV_range ft fs
  have e : leF (t.lowV slo shi tlo thi) (t.highV slo shi tlo thi) := by
    have m1 := (h.lowV_is slo shi tlo thi).le tlo slo (.inl rfl) (.inl rfl)
    have m2 := (h.highV_is slo shi tlo thi).le tlo slo (.inl rfl) (.inl rfl)
    exact leF_trans d3 (h.rd tlo slo) d1 m1 m2
  have l := flr_mono n1 n3 (leF_trans n1 n3 n3 (volF_room a0 e) (volF_mono ab d3 n3))
  exact Int.le_trans l (flr_le_cei n3)
end
end Go.Proofs.Ytohcopdfdmjhnaa.L1
