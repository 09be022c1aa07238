/- Plain laws: narrower spans leave narrower vats. No conditions beyond each theorem's own. -/
import Derived.Test.YtecbacbecopbeaaBo
set_option linter.unusedVariables false
set_option linter.unusedSimpArgs false
set_option linter.unusedSectionVars false
set_option linter.constructorNameAsVariable false
namespace Go.Proofs.Ytecbacbecopbeaa
open Go.RowKit

/-- a span lies within another one -/
def Nar (a b c d : Int) : Prop := c ≤ a ∧ a ≤ b ∧ b ≤ d
theorem Nar.self {a b : Int} (h : a ≤ b) : Nar a b a b := ⟨Int.le_refl _, h, Int.le_refl _⟩
/-- a vat whose spans lie within those of another one -/
structure VNar (a b : Vat) : Prop where
  s : Nar a.sl a.sh b.sl b.sh
  e : Nar a.el a.eh b.el b.eh
  p : Nar a.pl a.ph b.pl b.ph
  g : Nar a.gl a.gh b.gl b.gh
  o : Nar a.ol a.oh b.ol b.oh
  t : Nar a.tl a.th b.tl b.th
  c : a.c = b.c
/-- a yeast whose spans lie within those of another one -/
structure YNar (a b : Yst) : Prop where
  T : a.nT = b.nT
  R : a.nR = b.nR
  v : ∀ i, i < b.nT → a.T i = b.T i
  r : ∀ i, i < b.nR → Nar (a.A i) (a.B i) (b.A i) (b.B i)
  s : Nar a.sl a.sh b.sl b.sh
  g : Nar a.gl a.gh b.gl b.gh
  h : Nar a.hl a.hh b.hl b.hh
theorem VNar.vat {a b : Vat} (h : VNar a b) (hb : vatB b = true) : vatB a = true := by
  obtain ⟨h1, h2, h3, h4, h5, h6, h7⟩ := vatB_t hb
  obtain ⟨s, e, p, g, o, t, c⟩ := h
  unfold Nar at s e p g o t
  unfold vatB
  simp only [Bool.and_eq_true]
  refine ⟨allB_t.2 fun i hi => spanB_t.2 ?_, spanB_t.2 (by omega), inB_t.2 (by omega)⟩
  rcases i with _ | _ | _ | _ | _ | i
  · show 0 ≤ a.sl ∧ a.sl ≤ a.sh ∧ a.sh ≤ 1073741824; omega
  · show 0 ≤ a.el ∧ a.el ≤ a.eh ∧ a.eh ≤ 1073741824; omega
  · show 0 ≤ a.pl ∧ a.pl ≤ a.ph ∧ a.ph ≤ 1073741824; omega
  · show 0 ≤ a.gl ∧ a.gl ≤ a.gh ∧ a.gh ≤ 1073741824; omega
  · show 0 ≤ a.ol ∧ a.ol ≤ a.oh ∧ a.oh ≤ 1073741824; omega
  · omega
theorem lb_congr {L M : Nat → Int} {x : Int} : ∀ n, (∀ i, i < n → L i = M i) → lb L x n = lb M x n
  | 0, _ => rfl
  | n + 1, h => by
    have h1 := lb_congr (x := x) n (fun i hi => h i (by omega))
    unfold lb
    rw [h1, h n (by omega)]
theorem YNar.idx {a b : Yst} (h : YNar a b) (t : Int) : idx a.T a.nT t = idx b.T b.nT t := by
  unfold Go.Proofs.Ytecbacbecopbeaa.idx
  rw [h.T]
  exact lb_congr _ h.v
theorem YNar.yst {a b : Yst} (h : YNar a b) (hb : ystB b = true) : ystB a = true := by
  obtain ⟨⟨n1, n2⟩, h1, h2, h3, h4, h5, h6⟩ := ystB_t hb
  obtain ⟨hT, hR, v, r, s, g, hh⟩ := h
  unfold Nar at r s g hh
  unfold ystB ystH ystG
  simp only [Bool.and_eq_true, decide_eq_true_eq]
  refine ⟨⟨by omega, by omega⟩, allB_t.2 fun i hi => ?_, allB_t.2 fun i hi => spanB_t.2 ?_, spanB_t.2 (by omega), spanB_t.2 (by omega), spanB_t.2 (by omega)⟩
  · unfold tempB
    simp only [Bool.and_eq_true, Bool.or_eq_true, decide_eq_true_eq]
    have := h1 i (by omega)
    refine ⟨inB_t.2 (by rw [v i (by omega)]; exact this), ?_⟩
    rcases i with _ | i
    · exact .inl rfl
    · right
      have := h2 i (by omega)
      rw [Nat.add_sub_cancel, v i (by omega), v (i + 1) (by omega)]; exact this
  · have := h3 i (by omega)
    have := r i (by omega)
    omega
theorem rate_nar {a b : Yst} (h : YNar a b) (hb : ystB b = true) {tl th sl sh : Int} (ht : Nar tl th sl sh) : b.rl sl sh ≤ a.rl tl th ∧ a.rh tl th ≤ b.rh sl sh := by
  obtain ⟨⟨n1, n2⟩, -, -, h3, -⟩ := ystB_t hb
  obtain ⟨t0, t1, t2⟩ := ht
  have e1 := h.idx tl
  have e2 := h.idx th
  have f0 := idx_mono b.T b.nT t0
  have f1 := idx_mono b.T b.nT t1
  have f2 := idx_mono b.T b.nT t2
  have f3 := idx_le b.T b.nT sh
  unfold Yst.rl Yst.rh Yst.many Yst.fst
  rw [e1, e2]
  constructor
  · refine rLo_ge _ fun i hi => ?_
    have p1 := rLo_le b.A (Go.Proofs.Ytecbacbecopbeaa.idx b.T b.nT sl) (Go.Proofs.Ytecbacbecopbeaa.idx b.T b.nT sh + 1 - Go.Proofs.Ytecbacbecopbeaa.idx b.T b.nT sl) (Go.Proofs.Ytecbacbecopbeaa.idx b.T b.nT tl + i - Go.Proofs.Ytecbacbecopbeaa.idx b.T b.nT sl) (by omega)
    rw [show Go.Proofs.Ytecbacbecopbeaa.idx b.T b.nT sl + (Go.Proofs.Ytecbacbecopbeaa.idx b.T b.nT tl + i - Go.Proofs.Ytecbacbecopbeaa.idx b.T b.nT sl) = Go.Proofs.Ytecbacbecopbeaa.idx b.T b.nT tl + i by omega] at p1
    have := (h.r (Go.Proofs.Ytecbacbecopbeaa.idx b.T b.nT tl + i) (by omega)).1
    omega
  · refine rHi_le _ fun i hi => ?_
    have p1 := rHi_ge b.B (Go.Proofs.Ytecbacbecopbeaa.idx b.T b.nT sl) (Go.Proofs.Ytecbacbecopbeaa.idx b.T b.nT sh + 1 - Go.Proofs.Ytecbacbecopbeaa.idx b.T b.nT sl) (Go.Proofs.Ytecbacbecopbeaa.idx b.T b.nT tl + i - Go.Proofs.Ytecbacbecopbeaa.idx b.T b.nT sl) (by omega)
    rw [show Go.Proofs.Ytecbacbecopbeaa.idx b.T b.nT sl + (Go.Proofs.Ytecbacbecopbeaa.idx b.T b.nT tl + i - Go.Proofs.Ytecbacbecopbeaa.idx b.T b.nT sl) = Go.Proofs.Ytecbacbecopbeaa.idx b.T b.nT tl + i by omega] at p1
    have := (h.r (Go.Proofs.Ytecbacbecopbeaa.idx b.T b.nT tl + i) (by omega)).2.2
    omega
theorem mul_nar {a b c d : Int} (h0 : 0 ≤ a) (h1 : a ≤ b) (h2 : 0 ≤ c) (h3 : c ≤ d) : a * c ≤ b * d := Int.mul_le_mul h1 h3 h2 (by omega)
theorem low_nar {a b c d e : Int} (h0 : 0 ≤ a) (h1 : a ≤ b) (h2 : 0 ≤ c) (h3 : c ≤ d) (he : 0 < e) : a * c / e ≤ b * d / e := Int.ediv_le_ediv he (mul_nar h0 h1 h2 h3)
theorem high_nar {a b c d e : Int} (h0 : 0 ≤ a) (h1 : a ≤ b) (h2 : 0 ≤ c) (h3 : c ≤ d) (he : 1 ≤ e) : upI (a * c) e ≤ upI (b * d) e := upI_mono he (mul_nar h0 h1 h2 h3)
theorem hour_nar {z y : Yst} {w v : Vat} (hy : YNar z y) (hB : ystB y = true) (hw : VNar w v) (hv : vatB v = true) {dl dh cl ch : Int} (hd : Nar dl dh cl ch) : VNar (z.hour w dl dh) (y.hour v cl ch) := by
  have hBz := hy.yst hB
  have hvw := hw.vat hv
  obtain ⟨e1, p1, g1, w1, s1, q1⟩ := hour_range hBz hvw
  obtain ⟨e2, p2, g2, w2, s2, q2⟩ := hour_range hB hv
  obtain ⟨-, -, -, -, ⟨y1, y2, y3⟩, ⟨y4, y5, y6⟩, y7, y8, y9⟩ := ystB_t hB
  obtain ⟨⟨v1, v2, v3⟩, -, -, -, -, ⟨v4, v5, v6⟩, v7, v8⟩ := vatB_t hv
  obtain ⟨r1, r2, r3⟩ := rate_range hB v5
  obtain ⟨r4, r5, r6⟩ := rate_range hBz (tl := w.tl) (th := w.th) hw.t.2.1
  obtain ⟨r7, r8⟩ := rate_nar hy hB hw.t
  obtain ⟨s, e, p, g, o, t, c⟩ := hw
  obtain ⟨-, -, -, -, ys, yg, yh⟩ := hy
  unfold Nar at s e p g o t ys yg yh hd
  have EA : y.ea v ≤ z.ea w := low_nar v1 s.1 r1 r7 (by omega)
  have EB : z.eb w ≤ y.eb v := high_nar (by omega) s.2.2 (by omega) r8 (by omega)
  have PA : y.pa v ≤ z.pa w := low_nar e2.1 EA y1 ys.1 (by omega)
  have PB : z.pb w ≤ y.pb v := high_nar (by omega) EB (by omega) ys.2.2 (by omega)
  have GA : y.ga v ≤ z.ga w := low_nar e2.1 EA y4 yg.1 (by omega)
  have GB : z.gb w ≤ y.gb v := high_nar (by omega) EB (by omega) yg.2.2 (by omega)
  have SA : y.sa v ≤ z.sa w := low_nar v1 s.1 (by omega) (by omega) (by omega)
  have SB : z.sb w ≤ y.sb v := high_nar (by omega) s.2.2 (by omega) (by omega) (by omega)
  have WA : y.wa v ≤ z.wa w := by
    show y.ea v * y.hl * 1000 / v.c ≤ z.ea w * z.hl * 1000 / w.c
    rw [c]
    have := mul_nar e2.1 EA y7 yh.1
    exact Int.ediv_le_ediv (by omega) (by omega)
  have WB : z.wb w ≤ y.wb v := by
    show upI (z.eb w * z.hh * 1000) w.c ≤ upI (y.eb v * y.hh * 1000) v.c
    rw [c]
    have := mul_nar (show 0 ≤ z.eb w by omega) EB (show 0 ≤ z.hh by omega) yh.2.2
    exact upI_mono v7 (by omega)
  refine ⟨⟨SA, s1.2.1, SB⟩, ⟨?_, ?_, ?_⟩, ⟨?_, ?_, ?_⟩, ⟨?_, ?_, ?_⟩, ⟨GA, g1.2.1, GB⟩, ⟨?_, ?_, ?_⟩, c⟩ <;> simp only [Yst.hour] <;> omega
theorem vs_nar {z y : Yst} {w v : Vat} (hy : YNar z y) (hB : ystB y = true) (hw : VNar w v) {F' G' F G : Nat → Int} {k : Nat} (hc : ∀ j, j < k → Nar (F' j) (G' j) (F j) (G j)) (hv : ∀ j, j ≤ k → vatB (y.vs v F G j) = true) :
    ∀ j, j ≤ k → VNar (z.vs w F' G' j) (y.vs v F G j)
  | 0, _ => hw
  | j + 1, h => hour_nar hy hB (vs_nar hy hB hw hc hv j (by omega)) (hv j (by omega)) (hc j (by omega))
theorem okN_all {p : Nat → Bool} : ∀ k, (∀ j, j < k → p j = true) → okN p k = k
  | 0, _ => rfl
  | k + 1, h => by
    unfold okN
    rw [okN_all k (fun j hj => h j (by omega)), if_pos ⟨rfl, h k (by omega)⟩]
theorem ferE_ok {y : Yst} {v : Vat} {k : Nat} {F G : Nat → Int} (hk : k ≤ 200) (hB : ystB y = true) (hC : allB k (inSp 150000 F G) = true) (hv : ∀ j, j ≤ k → vatB (y.vs v F G j) = true) : ferE y v k F G = 0 := by
  unfold ferE Yst.stop
  rw [if_neg (by omega), if_pos ⟨hB, hv 0 (by omega), hC⟩, okN_all k (fun j hj => hv (j + 1) (by omega)), if_neg (by omega)]
theorem fer_nar {z y : Yst} {w v : Vat} (hy : YNar z y) (hw : VNar w v) {F' G' F G : Nat → Int} {k : Nat} (hc : ∀ j, j < k → Nar (F' j) (G' j) (F j) (G j)) (h0 : ferE y v k F G = 0) :
    ferE z w k F' G' = 0 ∧ ∀ j, j ≤ k → VNar (z.vs w F' G' j) (y.vs v F G j) := by
  obtain ⟨h1, h2, h3, h4, h5⟩ := ferE_zero h0
  have H := vs_nar hy h2 hw hc h5
  refine ⟨ferE_ok h1 (hy.yst h2) (allB_t.2 fun i hi => ?_) (fun j hj => (H j hj).vat (h5 j hj)), H⟩
  have a := spanB_t.1 (allB_t.1 h4 i hi)
  have b := hc i hi
  unfold Nar at b
  exact spanB_t.2 (by omega)
end Go.Proofs.Ytecbacbecopbeaa
