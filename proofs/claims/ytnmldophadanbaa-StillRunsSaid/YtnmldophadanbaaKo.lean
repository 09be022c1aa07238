/- Plain laws: narrower pots leave spans that are not wider. No conditions. -/
import Derived.Test.YtnmldophadanbaaWn
set_option linter.unusedVariables false
set_option linter.unusedSimpArgs false
set_option linter.unusedSectionVars false
set_option linter.constructorNameAsVariable false
namespace Go.Proofs.Ytnmldophadanbaa

/-- a pot within another one -/
structure Pot3.In (p q : Pot3) : Prop where
  v : p.v = q.v
  lo : q.lo ≤ p.lo
  hi : p.hi ≤ q.hi

theorem upI_mono' {a b c : Int} (hc : 1 ≤ c) (h : a ≤ b) : upI a c ≤ upI b c := by unfold upI; exact Int.ediv_le_ediv (by omega) (by omega)

theorem next_in {c : Crv} {p q : Pot3} {d : Int} (g : Good c.n c.L c.A c.B) (hp : p.ok) (hq : q.ok) (h : p.In q) (he : errD p d = 0) :
    (c.next p d).In (c.next q d) ∧ c.least q d ≤ c.least p d ∧ c.most p d ≤ c.most q d := by
  obtain ⟨hd, hv⟩ := errD_zero he
  have hd1 := inB_t.1 hd
  obtain ⟨p0, p1, p2, p3⟩ := hp
  obtain ⟨q0, q1, q2, q3⟩ := hq
  obtain ⟨e, hlo, hhi⟩ := h
  have up1 : upI (p.hi * 10000) p.v ≤ upI (q.hi * 10000) q.v := by rw [e]; exact upI_mono' (by omega) (by omega)
  have r1 : 0 ≤ upI (p.hi * 10000) p.v := upI_nonneg (by omega) (by omega)
  have r2 : upI (q.hi * 10000) q.v ≤ 10000 := upI_le (by omega) (by omega)
  have vm := g.vapHi_mono r1 up1 r2
  have m1 : c.most p d ≤ c.most q d := by
    unfold Crv.most
    have := upI_mono' (c := 10000) (by omega) (Int.mul_le_mul_of_nonneg_left vm (show 0 ≤ d by omega))
    omega
  have s1 : c.stays q d ≤ c.stays p d := by unfold Crv.stays; omega
  have s0 : 0 ≤ c.stays q d := by unfold Crv.stays; omega
  have w1 : c.weak q d ≤ c.weak p d := by
    unfold Crv.weak
    have a1 : q.lo * 10000 / q.v ≤ p.lo * 10000 / p.v := by rw [e]; exact Int.ediv_le_ediv (by omega) (by omega)
    have a2 : (if q.v - d = 0 then 0 else c.stays q d * 10000 / (q.v - d)) ≤ (if p.v - d = 0 then 0 else c.stays p d * 10000 / (p.v - d)) := by
      rw [e]
      split
      · omega
      · exact Int.ediv_le_ediv (by omega) (by omega)
    omega
  have w0 : 0 ≤ c.weak q d := by
    unfold Crv.weak
    have a1 : 0 ≤ q.lo * 10000 / q.v := Int.ediv_nonneg (by omega) (by omega)
    have a2 : 0 ≤ (if q.v - d = 0 then 0 else c.stays q d * 10000 / (q.v - d)) := by
      split
      · omega
      · exact Int.ediv_nonneg (by omega) (by omega)
    omega
  have w2 : c.weak p d ≤ 10000 := by
    unfold Crv.weak
    have : p.lo * 10000 / p.v ≤ 10000 := by have := Int.ediv_lt_of_lt_mul (show 0 < p.v by omega) (show p.lo * 10000 < 10001 * p.v by omega); omega
    omega
  have lm := g.vapLo_mono w0 w1 w2
  have l1 : c.least q d ≤ c.least p d := by
    unfold Crv.least
    have := Int.ediv_le_ediv (show (0 : Int) < 10000 by omega) (Int.mul_le_mul_of_nonneg_left lm (show 0 ≤ d by omega))
    rw [e]; omega
  have h1 : c.high p d ≤ c.high q d := by
    unfold Crv.high
    have : upI (p.hi * (p.v - d)) p.v ≤ upI (q.hi * (q.v - d)) q.v := by
      rw [e]; exact upI_mono' (by omega) (Int.mul_le_mul_of_nonneg_right hhi (by omega))
    rw [e] at this ⊢
    omega
  exact ⟨⟨by show p.v - d = q.v - d; omega, s1, h1⟩, l1, m1⟩

theorem next_v (c : Crv) (p : Pot3) (M : Nat → Int) (q : Pot3) (h : p.v = q.v) : ∀ j, (c.potAt p M j).v = (c.potAt q M j).v
  | 0 => h
  | j + 1 => by show (c.potAt p M j).v - M j = (c.potAt q M j).v - M j; rw [next_v c p M q h j]
theorem errAt_v (c : Crv) (p q : Pot3) (M : Nat → Int) (h : p.v = q.v) (j : Nat) : c.errAt p M j = c.errAt q M j := by
  unfold Crv.errAt errD; rw [next_v c p M q h j]

/-- a narrower pot has no error either -/
theorem run_narrow {m : Nat} {c : Crv} {p q : Pot3} {M : Nat → Int} {k : Nat} (h : runErr m c q M k = 0) (hin : p.In q) (hle : p.lo ≤ p.hi) : runErr m c p M k = 0 := by
  obtain ⟨hE, k64, e, g, hq, hgo, hok⟩ := run_zero h
  obtain ⟨q0, q1, q2, q3⟩ := hq
  obtain ⟨ev, hlo, hhi⟩ := hin
  have hE' : earlyE c.n m c.L c.A c.B p.v p.lo p.hi k = 0 := by
    unfold earlyE at hE ⊢
    rw [if_neg (by omega)] at hE ⊢
    split at hE
    · rename_i hc
      simp only [Bool.and_eq_true] at hc
      rw [hc.1, show potB p.v p.lo p.hi = true by unfold potB; rw [inB_t.2 ⟨by omega, by omega⟩, spanB_t.2 ⟨by omega, by omega, by omega⟩]; rfl]
      rfl
    · omega
  have hs : c.stop p M k = k := by
    have : ∀ j, j ≤ k → c.stop p M j = j := fun j => by
      induction j with
      | zero => intro _; rfl
      | succ j ih =>
        intro hj
        unfold Crv.stop
        rw [if_pos ⟨ih (by omega), by rw [errAt_v c p q M ev]; exact hgo j (by omega)⟩]
    exact this k (Nat.le_refl _)
  unfold runErr
  rw [hE', hs]
  simp

theorem pots_in {m : Nat} {c : Crv} {p q : Pot3} {M : Nat → Int} {k : Nat} (h : runErr m c q M k = 0) (hin : p.In q) (hle : p.lo ≤ p.hi) : ∀ j, j ≤ k → (c.potAt p M j).In (c.potAt q M j)
  | 0, _ => hin
  | j + 1, hj => by
    obtain ⟨_, _, _, g, _, hgo, hok⟩ := run_zero h
    obtain ⟨_, _, _, _, _, hgo', hok'⟩ := run_zero (run_narrow h hin hle)
    exact (next_in g (hok' j (by omega)) (hok j (by omega)) (pots_in h hin hle j (by omega)) (hgo' j (by omega))).1

/-- sums over a run -/
def sumLo (c : Crv) (p : Pot3) (M : Nat → Int) : Nat → Int
  | 0 => 0
  | j + 1 => sumLo c p M j + (c.outAt p M j).lo
def sumHi (c : Crv) (p : Pot3) (M : Nat → Int) : Nat → Int
  | 0 => 0
  | j + 1 => sumHi c p M j + (c.outAt p M j).hi
def sumM (M : Nat → Int) : Nat → Int
  | 0 => 0
  | j + 1 => sumM M j + M j

theorem sums {m : Nat} {c : Crv} {p : Pot3} {M : Nat → Int} {k : Nat} (h : runErr m c p M k = 0) : ∀ j, j ≤ k → (c.potAt p M j).v + sumM M j = p.v ∧ sumLo c p M j + (c.potAt p M j).hi ≤ p.hi ∧ p.lo ≤ sumHi c p M j + (c.potAt p M j).lo ∧ 0 ≤ sumLo c p M j ∧ sumLo c p M j ≤ 1073741824 ∧ 0 ≤ sumHi c p M j ∧ sumHi c p M j ≤ sumM M j ∧ 0 ≤ sumM M j
  | 0, _ => by
    obtain ⟨_, _, _, g, hp, hgo, hok⟩ := run_zero h
    obtain ⟨p0, p1, p2, p3⟩ := hp
    refine ⟨?_, ?_, ?_, ?_, ?_, ?_, ?_, ?_⟩ <;> simp [Crv.potAt, sumM, sumLo, sumHi]
  | j + 1, hj => by
    obtain ⟨i1, i2, i3, i4, i5, i6, i7, i8⟩ := sums h j (by omega)
    obtain ⟨_, _, _, g, hp, hgo, hok⟩ := run_zero h
    have n := next_ok g (hok j (by omega)) (hgo j (by omega) : errD (c.potAt p M j) (M j) = 0)
    obtain ⟨n0, n1, n2, n3, n4, n5, n6⟩ := n
    have d1 := inB_t.1 (errD_zero (hgo j (by omega) : errD (c.potAt p M j) (M j) = 0)).1
    obtain ⟨o0, o1, o2, o3⟩ := hok (j + 1) hj
    obtain ⟨p0, p1, p2, p3⟩ := hp
    have a1 : (c.potAt p M (j + 1)).v = (c.potAt p M j).v - M j := rfl
    have a2 : (c.potAt p M (j + 1)).lo = c.stays (c.potAt p M j) (M j) := rfl
    have a3 : (c.potAt p M (j + 1)).hi = c.high (c.potAt p M j) (M j) := rfl
    have b1 : sumLo c p M (j + 1) = sumLo c p M j + c.least (c.potAt p M j) (M j) := rfl
    have b2 : sumHi c p M (j + 1) = sumHi c p M j + c.most (c.potAt p M j) (M j) := rfl
    have b3 : sumM M (j + 1) = sumM M j + M j := rfl
    refine ⟨?_, ?_, ?_, ?_, ?_, ?_, ?_, ?_⟩ <;> omega
end Go.Proofs.Ytnmldophadanbaa
