/- Plain laws: lines through points rise; what is drawn leaves a valid pot. No conditions. -/
import Derived.Test.YtnmldophadanbaaKh
set_option linter.unusedVariables false
set_option linter.unusedSimpArgs false
set_option linter.unusedSectionVars false
set_option linter.constructorNameAsVariable false
namespace Go.Proofs.Ytnmldophadanbaa

/-- the line between its two ends -/
theorem line_ends {n : Nat} {L A B E : Nat → Int} (g : Good n L A B) (hE : ∀ i, i + 1 < n → E i ≤ E (i + 1)) {x : Int} (h0 : 0 ≤ x) (h1 : x ≤ 10000) :
    E (segI L n x) * lineDen L n x ≤ lineNum L E n x ∧ lineNum L E n x ≤ E (segI L n x + 1) * lineDen L n x := by
  obtain ⟨s1, s2, s3⟩ := g.seg h0 h1
  have e := hE _ s1
  unfold lineNum
  have hu : 0 ≤ x - L (segI L n x) := by omega
  have hu2 : x - L (segI L n x) ≤ lineDen L n x := by unfold lineDen; omega
  have a1 : 0 ≤ (E (segI L n x + 1) - E (segI L n x)) * (x - L (segI L n x)) := Int.mul_nonneg (by omega) hu
  have a2 : (E (segI L n x + 1) - E (segI L n x)) * (x - L (segI L n x)) ≤ (E (segI L n x + 1) - E (segI L n x)) * lineDen L n x := Int.mul_le_mul_of_nonneg_left hu2 (by omega)
  have a3 : (E (segI L n x + 1) - E (segI L n x)) * lineDen L n x = E (segI L n x + 1) * lineDen L n x - E (segI L n x) * lineDen L n x := Int.sub_mul _ _ _
  omega

/-- two numbers: the same place, or the first one's before the second one's, or the same number -/
theorem seg_cases {n : Nat} {L A B : Nat → Int} (g : Good n L A B) {x y : Int} (h0 : 0 ≤ x) (hxy : x ≤ y) (h1 : y ≤ 10000) : segI L n x = segI L n y ∨ segI L n x + 1 ≤ segI L n y ∨ x = y := by
  obtain ⟨s1, s2, s3⟩ := g.seg h0 (by omega : x ≤ 10000)
  obtain ⟨t1, t2, t3⟩ := g.seg (by omega : 0 ≤ y) h1
  rcases Nat.lt_trichotomy (segI L n x) (segI L n y) with h | h | h
  · exact .inr (.inl h)
  · exact .inl h
  · have := g.mono (segI L n y + 1) (segI L n x) h (by omega)
    exact .inr (.inr (by omega))

theorem fl_mono {n : Nat} {L A B E : Nat → Int} (g : Good n L A B) (hE : ∀ i, i + 1 < n → E i ≤ E (i + 1)) {x y : Int} (h0 : 0 ≤ x) (hxy : x ≤ y) (h1 : y ≤ 10000) :
    lineNum L E n x / lineDen L n x ≤ lineNum L E n y / lineDen L n y := by
  have dx := g.den h0 (by omega : x ≤ 10000)
  have dy := g.den (by omega : 0 ≤ y) h1
  obtain ⟨s1, s2, s3⟩ := g.seg h0 (by omega : x ≤ 10000)
  obtain ⟨t1, t2, t3⟩ := g.seg (by omega : 0 ≤ y) h1
  rcases seg_cases g h0 hxy h1 with h | h | h
  · have e : lineDen L n x = lineDen L n y := by unfold lineDen; rw [h]
    rw [← e]
    refine Int.ediv_le_ediv (by omega) ?_
    unfold lineNum
    rw [← e, h]
    have := Int.mul_le_mul_of_nonneg_left (show x - L (segI L n y) ≤ y - L (segI L n y) by omega) (show 0 ≤ E (segI L n y + 1) - E (segI L n y) by have := hE _ t1; omega)
    omega
  · have a := (line_ends g hE h0 (by omega : x ≤ 10000)).2
    have b := (line_ends g hE (by omega : 0 ≤ y) h1).1
    have m := mono_of hE _ _ h (by omega)
    have a' : lineNum L E n x / lineDen L n x ≤ E (segI L n x + 1) := by
      have := Int.ediv_le_ediv (show 0 < lineDen L n x by omega) a
      rwa [Int.mul_ediv_cancel _ (by omega)] at this
    have b' : E (segI L n y) ≤ lineNum L E n y / lineDen L n y := by
      have := Int.ediv_le_ediv (show 0 < lineDen L n y by omega) b
      rwa [Int.mul_ediv_cancel _ (by omega)] at this
    omega
  · rw [h]; exact Int.le_refl _

/-- rounded up -/
theorem up_mono {n : Nat} {L A B E : Nat → Int} (g : Good n L A B) (hE : ∀ i, i + 1 < n → E i ≤ E (i + 1)) {x y : Int} (h0 : 0 ≤ x) (hxy : x ≤ y) (h1 : y ≤ 10000) :
    upI (lineNum L E n x) (lineDen L n x) ≤ upI (lineNum L E n y) (lineDen L n y) := by
  have dx := g.den h0 (by omega : x ≤ 10000)
  have dy := g.den (by omega : 0 ≤ y) h1
  obtain ⟨s1, s2, s3⟩ := g.seg h0 (by omega : x ≤ 10000)
  obtain ⟨t1, t2, t3⟩ := g.seg (by omega : 0 ≤ y) h1
  rcases seg_cases g h0 hxy h1 with h | h | h
  · have e : lineDen L n x = lineDen L n y := by unfold lineDen; rw [h]
    unfold upI
    rw [← e]
    refine Int.ediv_le_ediv (by omega) ?_
    unfold lineNum
    rw [← e, h]
    have := Int.mul_le_mul_of_nonneg_left (show x - L (segI L n y) ≤ y - L (segI L n y) by omega) (show 0 ≤ E (segI L n y + 1) - E (segI L n y) by have := hE _ t1; omega)
    omega
  · have a := (line_ends g hE h0 (by omega : x ≤ 10000)).2
    have b := (line_ends g hE (by omega : 0 ≤ y) h1).1
    have m := mono_of hE _ _ h (by omega)
    have a' : upI (lineNum L E n x) (lineDen L n x) ≤ E (segI L n x + 1) := upI_le (by omega) a
    have b' : E (segI L n y) ≤ upI (lineNum L E n y) (lineDen L n y) := by
      have h2 := le_upI (a := lineNum L E n y) (show 1 ≤ lineDen L n y by omega)
      exact Int.le_of_mul_le_mul_right (Int.le_trans b h2) (by omega)
    omega
  · rw [h]; exact Int.le_refl _

theorem Good.vapLo_mono {n : Nat} {L A B : Nat → Int} (g : Good n L A B) {x y : Int} (h0 : 0 ≤ x) (hxy : x ≤ y) (h1 : y ≤ 10000) : vapLo L A n x ≤ vapLo L A n y := fl_mono g g.incA h0 hxy h1
theorem Good.vapHi_mono {n : Nat} {L A B : Nat → Int} (g : Good n L A B) {x y : Int} (h0 : 0 ≤ x) (hxy : x ≤ y) (h1 : y ≤ 10000) : vapHi L B n x ≤ vapHi L B n y := up_mono g g.incB h0 hxy h1

/-- one line is not above another one whose points are not -/
theorem line_le {n : Nat} {L A B E F : Nat → Int} (g : Good n L A B) (h : ∀ i, i < n → E i ≤ F i) {x : Int} (h0 : 0 ≤ x) (h1 : x ≤ 10000) : lineNum L E n x ≤ lineNum L F n x := by
  obtain ⟨s1, s2, s3⟩ := g.seg h0 h1
  unfold lineNum
  rw [line_mean, line_mean]
  have hd : 0 ≤ lineDen L n x - (x - L (segI L n x)) := by unfold lineDen; omega
  have a1 := Int.mul_le_mul_of_nonneg_right (h (segI L n x) (by omega)) hd
  have a2 := Int.mul_le_mul_of_nonneg_right (h _ s1) (show 0 ≤ x - L (segI L n x) by omega)
  omega

theorem lineNum_self {n : Nat} {L A B : Nat → Int} (g : Good n L A B) {x : Int} (h0 : 0 ≤ x) (h1 : x ≤ 10000) : lineNum L L n x = x * lineDen L n x := by
  unfold lineNum
  rw [show L (segI L n x + 1) - L (segI L n x) = lineDen L n x from rfl, Int.mul_comm (lineDen L n x), ← Int.add_mul]
  congr 1; omega

theorem Good.vapLo_ge {n : Nat} {L A B : Nat → Int} (g : Good n L A B) {x : Int} (h0 : 0 ≤ x) (h1 : x ≤ 10000) : x ≤ vapLo L A n x := by
  have d := g.den h0 h1
  have a := line_le g (fun i hi => (g.span i hi).1) h0 h1
  rw [lineNum_self g h0 h1] at a
  unfold vapLo
  have := Int.ediv_le_ediv (show 0 < lineDen L n x by omega) a
  rwa [Int.mul_ediv_cancel _ (by omega)] at this

theorem Good.lo_le_hi {n : Nat} {L A B : Nat → Int} (g : Good n L A B) {x : Int} (h0 : 0 ≤ x) (h1 : x ≤ 10000) : vapLo L A n x ≤ vapHi L B n x := by
  have d := g.den h0 h1
  have a := line_le g (fun i hi => (g.span i hi).2.1) h0 h1
  unfold vapLo vapHi
  refine Int.ediv_le_ediv (by omega) ?_
  omega

theorem Good.vapLo_zero {n : Nat} {L A B : Nat → Int} (g : Good n L A B) : vapLo L A n 0 = 0 := by
  have t := g.two
  obtain ⟨s1, s2, s3⟩ := g.seg (x := 0) (by omega) (by omega)
  have hs : segI L n 0 = 0 := by
    rcases Nat.eq_zero_or_pos (segI L n 0) with h | h
    · exact h
    · have h1 : L 0 < L 1 := g.inc 0 (by omega)
      have := g.mono 1 (segI L n 0) h (by omega)
      rw [g.zero] at *; omega
  unfold vapLo lineNum
  rw [hs, g.low, g.zero]
  simp

/-- what is drawn leaves a valid pot -/
theorem next_ok {c : Crv} {p : Pot3} {d : Int} (g : Good c.n c.L c.A c.B) (hp : p.ok) (h : errD p d = 0) :
    (c.next p d).ok ∧ 0 ≤ c.least p d ∧ c.least p d ≤ c.most p d ∧ c.most p d ≤ d ∧ c.most p d ≤ p.hi ∧ p.lo ≤ c.most p d + c.stays p d ∧ c.least p d + c.high p d ≤ p.hi := by
  obtain ⟨hd, hv⟩ := errD_zero h
  have hd1 := inB_t.1 hd
  obtain ⟨p0, p1, p2, p3⟩ := hp
  obtain ⟨oL, hoL⟩ : ∃ oL, oL = p.lo * 10000 / p.v := ⟨_, rfl⟩
  obtain ⟨oH, hoH⟩ : ∃ oH, oH = upI (p.hi * 10000) p.v := ⟨_, rfl⟩
  have r0 : 0 ≤ oL ∧ oL ≤ 10000 := by
    rw [hoL]
    exact ⟨Int.ediv_nonneg (by omega) (by omega), by have := Int.ediv_lt_of_lt_mul (show 0 < p.v by omega) (show p.lo * 10000 < 10001 * p.v by omega); omega⟩
  have r1 : 0 ≤ oH ∧ oH ≤ 10000 := by
    rw [hoH]; exact ⟨upI_nonneg (by omega) (by omega), upI_le (by omega) (by omega)⟩
  have oLH : oL ≤ oH := by
    have h1 : p.hi * 10000 ≤ oH * p.v := by rw [hoH]; exact le_upI (by omega)
    have h2 : oL * p.v ≤ p.lo * 10000 := by rw [hoL]; exact Int.ediv_mul_le _ (by omega)
    exact Int.le_of_mul_le_mul_right (show oL * p.v ≤ oH * p.v by omega) (by omega)
  obtain ⟨vh, hvh⟩ : ∃ vh, vh = vapHi c.L c.B c.n oH := ⟨_, rfl⟩
  have rv : 0 ≤ vh ∧ vh ≤ 10000 := by rw [hvh]; exact g.vapHi_range r1.1 r1.2
  have vge : oH ≤ vh := by rw [hvh]; exact Int.le_trans (g.vapLo_ge r1.1 r1.2) (g.lo_le_hi r1.1 r1.2)
  obtain ⟨um, hum⟩ : ∃ um, um = upI (d * vh) 10000 := ⟨_, rfl⟩
  have hm0 : 0 ≤ d * vh := Int.mul_nonneg (by omega) rv.1
  have hm1 : d * vh ≤ d * 10000 := Int.mul_le_mul_of_nonneg_left rv.2 (by omega)
  have ru : 0 ≤ um ∧ um ≤ d := by rw [hum]; exact ⟨upI_nonneg hm0 (by omega), upI_le (by omega) (by omega)⟩
  have um1 : d * vh ≤ um * 10000 := by rw [hum]; exact le_upI (by omega)
  have most : c.most p d = min p.hi um := by unfold Crv.most; rw [hum, hvh, hoH]
  -- um * v ≥ d * hi
  have key : d * p.hi ≤ um * p.v := by
    have h1 : p.hi * 10000 ≤ oH * p.v := by rw [hoH]; exact le_upI (by omega)
    have h2 : oH * p.v ≤ vh * p.v := Int.mul_le_mul_of_nonneg_right vge (by omega)
    have h3 : d * (p.hi * 10000) ≤ d * (vh * p.v) := Int.mul_le_mul_of_nonneg_left (by omega) (by omega)
    have h4 : d * vh * p.v ≤ um * 10000 * p.v := Int.mul_le_mul_of_nonneg_right um1 (by omega)
    have e1 : d * (p.hi * 10000) = d * p.hi * 10000 := (Int.mul_assoc _ _ _).symm
    have e2 : d * (vh * p.v) = d * vh * p.v := (Int.mul_assoc _ _ _).symm
    have e3 : um * 10000 * p.v = um * p.v * 10000 := by rw [Int.mul_assoc, Int.mul_comm 10000, ← Int.mul_assoc]
    omega
  obtain ⟨mo, hmo⟩ : ∃ mo, mo = c.most p d := ⟨_, rfl⟩
  obtain ⟨st, hst⟩ : ∃ st, st = c.stays p d := ⟨_, rfl⟩
  have est : st = max 0 (p.lo - mo) := by rw [hst, hmo]; rfl
  have emo : mo = min p.hi um := by rw [hmo, most]
  -- st * v ≤ hi * (v - d)
  have k2 : st * p.v ≤ p.hi * (p.v - d) := by
    have z : 0 ≤ p.hi * (p.v - d) := Int.mul_nonneg (by omega) (by omega)
    by_cases hs : p.lo - mo ≤ 0
    · have : st = 0 := by omega
      rw [this]; omega
    · have e : st = p.lo - um := by omega
      rw [e, Int.sub_mul, Int.mul_sub, Int.mul_comm p.hi d]
      have := Int.mul_le_mul_of_nonneg_right p1 (show 0 ≤ p.v by omega)
      omega
  obtain ⟨u3, hu3⟩ : ∃ u3, u3 = upI (p.hi * (p.v - d)) p.v := ⟨_, rfl⟩
  have k3 : st ≤ u3 := by
    have h2 : p.hi * (p.v - d) ≤ u3 * p.v := by rw [hu3]; exact le_upI (by omega)
    exact Int.le_of_mul_le_mul_right (show st * p.v ≤ u3 * p.v by omega) (by omega)
  have k4 : u3 ≤ p.v - d := by
    rw [hu3]; refine upI_le (by omega) ?_
    rw [Int.mul_comm p.hi]
    exact Int.mul_le_mul_of_nonneg_left p2 (by omega)
  obtain ⟨wk, hwk⟩ : ∃ wk, wk = c.weak p d := ⟨_, rfl⟩
  have ewk : wk = min oL (if p.v - d = 0 then 0 else st * 10000 / (p.v - d)) := by rw [hwk, hoL, hst]; rfl
  have rw0 : 0 ≤ wk ∧ wk ≤ oL := by
    have : 0 ≤ (if p.v - d = 0 then 0 else st * 10000 / (p.v - d)) := by
      split
      · omega
      · exact Int.ediv_nonneg (by omega) (by omega)
    omega
  obtain ⟨th, hth⟩ : ∃ th, th = vapLo c.L c.A c.n wk := ⟨_, rfl⟩
  have rth : 0 ≤ th ∧ th ≤ vh := by
    rw [hth, hvh]
    exact ⟨(g.vapLo_range rw0.1 (by omega)).1, Int.le_trans (g.vapLo_mono rw0.1 (by omega : wk ≤ oH) r1.2) (g.lo_le_hi r1.1 r1.2)⟩
  obtain ⟨ls, hls⟩ : ∃ ls, ls = c.least p d := ⟨_, rfl⟩
  have els : ls = max (p.lo - (p.v - d)) (d * th / 10000) := by rw [hls, hth, hwk]; rfl
  have t0 : 0 ≤ d * th := Int.mul_nonneg (by omega) rth.1
  have t1 : d * th ≤ d * vh := Int.mul_le_mul_of_nonneg_left rth.2 (by omega)
  have k5 : ls ≤ mo ∧ st ≤ p.hi - ls := by
    by_cases hs : p.lo - mo ≤ 0
    · have s0 : st = 0 := by omega
      have w0 : wk = 0 := by
        have : (if p.v - d = 0 then 0 else st * 10000 / (p.v - d)) = 0 := by
          split
          · rfl
          · rw [s0]; simp
        omega
      have : th = 0 := by rw [hth, w0]; exact g.vapLo_zero
      rw [this] at els
      simp at els
      omega
    · have e : mo = um := by omega
      omega
  have ehg : c.high p d = min (p.hi - ls) (min (p.v - d) u3) := by rw [hls, hu3]; rfl
  rw [← hls, ← hmo, ← hst, ehg]
  refine ⟨⟨?_, ?_, ?_, ?_⟩, ?_, ?_, ?_, ?_, ?_, ?_⟩
  · show 0 ≤ c.stays p d; omega
  · show c.stays p d ≤ c.high p d; rw [ehg]; omega
  · show c.high p d ≤ p.v - d; rw [ehg]; omega
  · show p.v - d ≤ 1073741824; omega
  all_goals omega
end Go.Proofs.Ytnmldophadanbaa
