/- StillLasts: the walk of the law. Contracts of long, the reference's Pot, a span within another one; lists of what is drawn in memory. Plain laws: narrower pots leave spans that are not wider. StillNarrower: the walk of the law where it is short: too long, or an error. StillNarrower: the walk of the law where the run goes through. Contracts of Plates and what it holds, Vapour, Check. Contracts of Plates, Vapour. No conditions beyond each theorem's own. -/
import Derived.Test.YticgkhoidgkejaaGf
import Derived.Test.YticgkhoidgkejaaFb
import Derived.Deep.QuietTactic
import Derived.BigQuiet
set_option linter.unusedVariables false
set_option linter.unusedSimpArgs false
set_option linter.unusedSectionVars false
set_option linter.constructorNameAsVariable false
namespace Go.Proofs.Yticgkhoidgkejaa
open Go.RowKit

attribute [local go_sem] gw_cell gw_frozen gw_size

theorem thru {w X w1 : World} (hb : Below X.heap.size X w1) (h : Below w.heap.size w X) : Below w.heap.size w w1 := h.trans (hb.mono h.size)

def True1 (w : World) (e : Ending) (w' : World) : Prop := e = .returned (.bool true) ∧ Below w.heap.size w w'

/-- the runs, whatever they take -/
theorem lasts_num {tl th wl wh l : Int} (h1 : 0 ≤ wl) (h2 : wl ≤ wh) (h3 : tl ≤ th) (h4 : 0 ≤ l) (h5 : l ≤ tl) (h6 : th ≤ 1073741824) (h7 : wh ≤ 1073741824) :
    (wh = 0 ∧ wl = 0 ∧ runsI tl wh l = -1 ∧ runsI th wl l = -1) ∨
    (1 ≤ wh ∧ 0 ≤ runsI tl wh l ∧ runsI tl wh l ≤ 1073741824 ∧ 0 ≤ runsI tl wh l * wh ∧ l ≤ tl - runsI tl wh l * wh ∧ tl - (runsI tl wh l + 1) * wh < l ∧
      ((wl = 0 ∧ runsI th wl l = -1) ∨ (1 ≤ wl ∧ runsI tl wh l ≤ runsI th wl l ∧ 0 ≤ runsI th wl l ∧ runsI th wl l ≤ 1073741824 ∧ 0 ≤ runsI th wl l * wl ∧ l ≤ th - runsI th wl l * wl ∧ th - (runsI th wl l + 1) * wl < l))) := by
  have key : ∀ t w : Int, l ≤ t → t ≤ 1073741824 → 1 ≤ w → 0 ≤ (t - l) / w ∧ (t - l) / w ≤ 1073741824 ∧ 0 ≤ (t - l) / w * w ∧ l ≤ t - (t - l) / w * w ∧ t - ((t - l) / w + 1) * w < l := fun t w ht ht2 hw => by
    have a := Int.ediv_nonneg (show 0 ≤ t - l by omega) (show 0 ≤ w by omega)
    have b := Int.ediv_mul_le (t - l) (show w ≠ 0 by omega)
    have c := Int.lt_ediv_add_one_mul_self (t - l) (show 0 < w by omega)
    have d := Int.mul_nonneg a (show 0 ≤ w by omega)
    have e : (t - l) / w ≤ (t - l) / w * w := by
      have := Int.mul_le_mul_of_nonneg_left (show (1 : Int) ≤ w from hw) a
      omega
    exact ⟨a, by omega, d, by omega, by omega⟩
  by_cases hw : wh = 0
  · have : wl = 0 := by omega
    exact .inl ⟨hw, this, by unfold runsI; rw [if_pos hw], by unfold runsI; rw [if_pos this]⟩
  · right
    have e1 : runsI tl wh l = (tl - l) / wh := by unfold runsI; rw [if_neg hw]
    obtain ⟨k1, k2, k3, k4, k5⟩ := key tl wh h5 (by omega) (by omega)
    rw [e1]
    refine ⟨by omega, k1, k2, k3, k4, k5, ?_⟩
    by_cases hl : wl = 0
    · exact .inl ⟨hl, by unfold runsI; rw [if_pos hl]⟩
    · have e2 : runsI th wl l = (th - l) / wl := by unfold runsI; rw [if_neg hl]
      obtain ⟨q1, q2, q3, q4, q5⟩ := key th wl (by omega) h6 (by omega)
      rw [e2]
      refine .inr ⟨by omega, ?_, q1, q2, q3, q4, q5⟩
      have a1 : (tl - l) / wh ≤ (th - l) / wh := Int.ediv_le_ediv (by omega) (by omega)
      have a2 : (th - l) / wh ≤ (th - l) / wl := by
        refine Int.le_ediv_of_mul_le (by omega) ?_
        have b1 := Int.ediv_mul_le (th - l) (show wh ≠ 0 by omega)
        have b2 := Int.mul_le_mul_of_nonneg_left h2 (Int.ediv_nonneg (show 0 ≤ th - l by omega) (show 0 ≤ wh by omega))
        omega
      omega

/-- what is left of the copper before run i -/
def nowI (tl th wl wh : Int) (n : Nat) (Y : Nat → Int) : Nat → Int
  | 0 => innerI tl th (Y 0)
  | i + 1 => nowI tl th wl wh n Y i - innerI wl wh (Y (i % n))
theorem nowI_range {tl th wl wh : Int} {n : Nat} {Y : Nat → Int} (h2 : wl ≤ wh) (h3 : tl ≤ th) : ∀ i : Nat, tl - i * wh ≤ nowI tl th wl wh n Y i ∧ nowI tl th wl wh n Y i ≤ th - i * wl
  | 0 => by have := innerI_range (b := Y 0) h3; simpa [nowI] using this
  | i + 1 => by
    have ih := nowI_range (n := n) (Y := Y) h2 h3 i
    have := innerI_range (b := Y (i % n)) h2
    have e1 : ((i + 1 : Nat) : Int) * wh = i * wh + wh := by rw [Int.natCast_add, Int.add_mul]; simp
    have e2 : ((i + 1 : Nat) : Int) * wl = i * wl + wl := by rw [Int.natCast_add, Int.add_mul]; simp
    rw [e1, e2]
    unfold nowI
    omega
end Go.Proofs.Yticgkhoidgkejaa

namespace Go.Proofs.Yticgkhoidgkejaa
open Go.RowKit

attribute [local go_sem] gw_cell gw_frozen gw_size

theorem ret_bool {a b : Bool} (h : a = b) : Ending.returned (.bool a) = .returned (.bool b) := by rw [h]

def longB (n m k : Nat) : Bool := decide (40 < n) || (decide (40 < m) || decide (70 < k))

theorem longB_f {n m k : Nat} (h : longB n m k = false) : n ≤ 40 ∧ m ≤ 40 ∧ k ≤ 70 := by
  simp [longB] at h; omega

/-- a slice of what is drawn -/
def DrawnAt (w : World) (a : Option Addr) (n : Nat) (D : Nat → Dr3) : Prop :=
  n = 0 ∨ ∃ b off, a = some ⟨b, off, none⟩ ∧ b < w.heap.size ∧ ∀ i, i < n → w.cell? ⟨b, off + i * 3, none⟩ = some (.int .i64 (D i).d) ∧ w.cell? ⟨b, off + i * 3 + 1, none⟩ = some (.int .i64 (D i).lo) ∧ w.cell? ⟨b, off + i * 3 + 2, none⟩ = some (.int .i64 (D i).hi)
theorem DrawnAt.below {w w' : World} {a : Option Addr} {n : Nat} {D : Nat → Dr3} (h : DrawnAt w a n D) (hb : Below w.heap.size w w') : DrawnAt w' a n D := by
  rcases h with h | ⟨b, off, rfl, hlt, hc⟩
  · exact .inl h
  · exact .inr ⟨b, off, rfl, Nat.lt_of_lt_of_le hlt hb.size, fun i hi => ⟨(hb.cell (p := ⟨b, _, none⟩) hlt).trans (hc i hi).1, (hb.cell (p := ⟨b, _, none⟩) hlt).trans (hc i hi).2.1, (hb.cell (p := ⟨b, _, none⟩) hlt).trans (hc i hi).2.2⟩⟩
theorem outs_get (c : Crv) (p : Pot3) (M : Nat → Int) : ∀ (k i : Nat), i < k → (c.outs p M k)[i * 3]? = some (.int .i64 (c.outAt p M i).d) ∧ (c.outs p M k)[i * 3 + 1]? = some (.int .i64 (c.outAt p M i).lo) ∧ (c.outs p M k)[i * 3 + 2]? = some (.int .i64 (c.outAt p M i).hi)
  | 0, i, h => by omega
  | k + 1, i, h => by
    rw [c.outs_succ]
    have hl := c.outs_length p M k
    by_cases hi : i < k
    · obtain ⟨h1, h2, h3⟩ := outs_get c p M k i hi
      exact ⟨by rw [List.getElem?_append_left (by omega)]; exact h1, by rw [List.getElem?_append_left (by omega)]; exact h2, by rw [List.getElem?_append_left (by omega)]; exact h3⟩
    · obtain rfl : i = k := by omega
      refine ⟨?_, ?_, ?_⟩
      · rw [List.getElem?_append_right (by omega), hl, Nat.sub_self]; rfl
      · rw [List.getElem?_append_right (by omega), hl, show i * 3 + 1 - i * 3 = 1 by omega]; rfl
      · rw [List.getElem?_append_right (by omega), hl, show i * 3 + 2 - i * 3 = 2 by omega]; rfl
theorem drawn_of_own {w : World} {base k : Nat} {e : TypeId} {c : Crv} {p : Pot3} {M : Nat → Int} {v : Value} (h : w.ownsRow base e 3 v k (c.outs p M k)) : ∃ a cap, v = .slice a k cap ∧ DrawnAt w a k (c.outAt p M) := by
  rcases h.2 with ⟨rfl, h0⟩ | ⟨g, cap, cur, rfl, hg, hgb, _⟩
  · exact ⟨none, 0, by rw [h0], .inl h0⟩
  · refine ⟨_, cap, rfl, .inr ⟨g, 0, rfl, (Array.getElem?_eq_some_iff.1 hgb).1, fun i hi => ?_⟩⟩
    obtain ⟨h1, h2, h3⟩ := outs_get c p M k i hi
    simp only [Nat.zero_add]
    exact ⟨row_cells h _ _ h1, row_cells h _ _ h2, row_cells h _ _ h3⟩
end Go.Proofs.Yticgkhoidgkejaa

namespace Go.Proofs.Yticgkhoidgkejaa

/-- a pot within another one -/
structure Pot3.In (p q : Pot3) : Prop where
  v : p.v = q.v
  lo : q.lo ≤ p.lo
  hi : p.hi ≤ q.hi

theorem upI_mono' {a b c : Int} (hc : 1 ≤ c) (h : a ≤ b) : upI a c ≤ upI b c := by unfold upI; exact Int.ediv_le_ediv (by omega) (by omega)

theorem next_in {c : Crv} {p q : Pot3} {d : Int} (g : Good c.n c.L c.A c.B) (hp : p.ok) (hq : q.ok) (h : p.In q) (he : errD p d = 0) :
    (c.next p d).In (c.next q d) ∧ c.least q d ≤ c.least p d ∧ c.most p d ≤ c.most q d := by
  obtain ⟨hd, hv⟩ := errD_zero he
  have hd1 := inB_t.1 hd
  obtain ⟨p0, p1, p2, p3⟩ := hp
  obtain ⟨q0, q1, q2, q3⟩ := hq
  obtain ⟨e, hlo, hhi⟩ := h
  have up1 : upI (p.hi * 10000) p.v ≤ upI (q.hi * 10000) q.v := by rw [e]; exact upI_mono' (by omega) (by omega)
  have r1 : 0 ≤ upI (p.hi * 10000) p.v := upI_nonneg (by omega) (by omega)
  have r2 : upI (q.hi * 10000) q.v ≤ 10000 := upI_le (by omega) (by omega)
  have vm := g.vapHi_mono r1 up1 r2
  have m1 : c.most p d ≤ c.most q d := by
    unfold Crv.most
    have := upI_mono' (c := 10000) (by omega) (Int.mul_le_mul_of_nonneg_left vm (show 0 ≤ d by omega))
    omega
  have s1 : c.stays q d ≤ c.stays p d := by unfold Crv.stays; omega
  have s0 : 0 ≤ c.stays q d := by unfold Crv.stays; omega
  have w1 : c.weak q d ≤ c.weak p d := by
    unfold Crv.weak
    have a1 : q.lo * 10000 / q.v ≤ p.lo * 10000 / p.v := by rw [e]; exact Int.ediv_le_ediv (by omega) (by omega)
    have a2 : (if q.v - d = 0 then 0 else c.stays q d * 10000 / (q.v - d)) ≤ (if p.v - d = 0 then 0 else c.stays p d * 10000 / (p.v - d)) := by
      rw [e]
      split
      · omega
      · exact Int.ediv_le_ediv (by omega) (by omega)
    omega
  have w0 : 0 ≤ c.weak q d := by
    unfold Crv.weak
    have a1 : 0 ≤ q.lo * 10000 / q.v := Int.ediv_nonneg (by omega) (by omega)
    have a2 : 0 ≤ (if q.v - d = 0 then 0 else c.stays q d * 10000 / (q.v - d)) := by
      split
      · omega
      · exact Int.ediv_nonneg (by omega) (by omega)
    omega
  have w2 : c.weak p d ≤ 10000 := by
    unfold Crv.weak
    have : p.lo * 10000 / p.v ≤ 10000 := by have := Int.ediv_lt_of_lt_mul (show 0 < p.v by omega) (show p.lo * 10000 < 10001 * p.v by omega); omega
    omega
  have lm := g.vapLo_mono w0 w1 w2
  have l1 : c.least q d ≤ c.least p d := by
    unfold Crv.least
    have := Int.ediv_le_ediv (show (0 : Int) < 10000 by omega) (Int.mul_le_mul_of_nonneg_left lm (show 0 ≤ d by omega))
    rw [e]; omega
  have h1 : c.high p d ≤ c.high q d := by
    unfold Crv.high
    have : upI (p.hi * (p.v - d)) p.v ≤ upI (q.hi * (q.v - d)) q.v := by
      rw [e]; exact upI_mono' (by omega) (Int.mul_le_mul_of_nonneg_right hhi (by omega))
    rw [e] at this ⊢
    omega
  exact ⟨⟨by show p.v - d = q.v - d; omega, s1, h1⟩, l1, m1⟩

theorem next_v (c : Crv) (p : Pot3) (M : Nat → Int) (q : Pot3) (h : p.v = q.v) : ∀ j, (c.potAt p M j).v = (c.potAt q M j).v
  | 0 => h
  | j + 1 => by show (c.potAt p M j).v - M j = (c.potAt q M j).v - M j; rw [next_v c p M q h j]
theorem errAt_v (c : Crv) (p q : Pot3) (M : Nat → Int) (h : p.v = q.v) (j : Nat) : c.errAt p M j = c.errAt q M j := by
  unfold Crv.errAt errD; rw [next_v c p M q h j]

/-- a narrower pot has no error either -/
theorem run_narrow {m : Nat} {c : Crv} {p q : Pot3} {M : Nat → Int} {k : Nat} (h : runErr m c q M k = 0) (hin : p.In q) (hle : p.lo ≤ p.hi) : runErr m c p M k = 0 := by
  obtain ⟨hE, k64, e, g, hq, hgo, hok⟩ := run_zero h
  obtain ⟨q0, q1, q2, q3⟩ := hq
  obtain ⟨ev, hlo, hhi⟩ := hin
  have hE' : earlyE c.n m c.L c.A c.B p.v p.lo p.hi k = 0 := by
    unfold earlyE at hE ⊢
    rw [if_neg (by omega)] at hE ⊢
    split at hE
    · rename_i hc
      simp only [Bool.and_eq_true] at hc
      rw [hc.1, show potB p.v p.lo p.hi = true by unfold potB; rw [inB_t.2 ⟨by omega, by omega⟩, spanB_t.2 ⟨by omega, by omega, by omega⟩]; rfl]
      rfl
    · omega
  have hs : c.stop p M k = k := by
    have : ∀ j, j ≤ k → c.stop p M j = j := fun j => by
      induction j with
      | zero => intro _; rfl
      | succ j ih =>
        intro hj
        unfold Crv.stop
        rw [if_pos ⟨ih (by omega), by rw [errAt_v c p q M ev]; exact hgo j (by omega)⟩]
    exact this k (Nat.le_refl _)
  unfold runErr
  rw [hE', hs]
  simp

theorem pots_in {m : Nat} {c : Crv} {p q : Pot3} {M : Nat → Int} {k : Nat} (h : runErr m c q M k = 0) (hin : p.In q) (hle : p.lo ≤ p.hi) : ∀ j, j ≤ k → (c.potAt p M j).In (c.potAt q M j)
  | 0, _ => hin
  | j + 1, hj => by
    obtain ⟨_, _, _, g, _, hgo, hok⟩ := run_zero h
    obtain ⟨_, _, _, _, _, hgo', hok'⟩ := run_zero (run_narrow h hin hle)
    exact (next_in g (hok' j (by omega)) (hok j (by omega)) (pots_in h hin hle j (by omega)) (hgo' j (by omega))).1

/-- sums over a run -/
def sumLo (c : Crv) (p : Pot3) (M : Nat → Int) : Nat → Int
  | 0 => 0
  | j + 1 => sumLo c p M j + (c.outAt p M j).lo
def sumHi (c : Crv) (p : Pot3) (M : Nat → Int) : Nat → Int
  | 0 => 0
  | j + 1 => sumHi c p M j + (c.outAt p M j).hi
def sumM (M : Nat → Int) : Nat → Int
  | 0 => 0
  | j + 1 => sumM M j + M j

theorem sums {m : Nat} {c : Crv} {p : Pot3} {M : Nat → Int} {k : Nat} (h : runErr m c p M k = 0) : ∀ j, j ≤ k → (c.potAt p M j).v + sumM M j = p.v ∧ sumLo c p M j + (c.potAt p M j).hi ≤ p.hi ∧ p.lo ≤ sumHi c p M j + (c.potAt p M j).lo ∧ 0 ≤ sumLo c p M j ∧ sumLo c p M j ≤ 1073741824 ∧ 0 ≤ sumHi c p M j ∧ sumHi c p M j ≤ sumM M j ∧ 0 ≤ sumM M j
  | 0, _ => by
    obtain ⟨_, _, _, g, hp, hgo, hok⟩ := run_zero h
    obtain ⟨p0, p1, p2, p3⟩ := hp
    refine ⟨?_, ?_, ?_, ?_, ?_, ?_, ?_, ?_⟩ <;> simp [Crv.potAt, sumM, sumLo, sumHi]
  | j + 1, hj => by
    obtain ⟨i1, i2, i3, i4, i5, i6, i7, i8⟩ := sums h j (by omega)
    obtain ⟨_, _, _, g, hp, hgo, hok⟩ := run_zero h
    have n := next_ok g (hok j (by omega)) (hgo j (by omega) : errD (c.potAt p M j) (M j) = 0)
    obtain ⟨n0, n1, n2, n3, n4, n5, n6⟩ := n
    have d1 := inB_t.1 (errD_zero (hgo j (by omega) : errD (c.potAt p M j) (M j) = 0)).1
    obtain ⟨o0, o1, o2, o3⟩ := hok (j + 1) hj
    obtain ⟨p0, p1, p2, p3⟩ := hp
    have a1 : (c.potAt p M (j + 1)).v = (c.potAt p M j).v - M j := rfl
    have a2 : (c.potAt p M (j + 1)).lo = c.stays (c.potAt p M j) (M j) := rfl
    have a3 : (c.potAt p M (j + 1)).hi = c.high (c.potAt p M j) (M j) := rfl
    have b1 : sumLo c p M (j + 1) = sumLo c p M j + c.least (c.potAt p M j) (M j) := rfl
    have b2 : sumHi c p M (j + 1) = sumHi c p M j + c.most (c.potAt p M j) (M j) := rfl
    have b3 : sumM M (j + 1) = sumM M j + M j := rfl
    refine ⟨?_, ?_, ?_, ?_, ?_, ?_, ?_, ?_⟩ <;> omega
end Go.Proofs.Yticgkhoidgkejaa

namespace Go.Proofs.Yticgkhoidgkejaa
open Go.RowKit

attribute [local go_sem] gw_cell gw_frozen gw_size

/-- a curve and a pot were boxed -/
structure NB (w W : World) (aL aV : Option Addr) (n m cL cV : Nat) (v lo hi : Int) : Prop where
  c0 : W.cell? ⟨w.heap.size, 0, none⟩ = some (.slice aL n cL)
  c1 : W.cell? ⟨w.heap.size, 1, none⟩ = some (.slice aV m cV)
  p0 : W.cell? ⟨w.heap.size + 1, 0, none⟩ = some (.int .i64 v)
  p1 : W.cell? ⟨w.heap.size + 1, 1, none⟩ = some (.int .i64 lo)
  p2 : W.cell? ⟨w.heap.size + 1, 2, none⟩ = some (.int .i64 hi)
  sz : w.heap.size + 2 ≤ W.heap.size
  low : Below w.heap.size w W
section
variable {w W W' : World} {aL aV : Option Addr} {n m cL cV : Nat} {v lo hi : Int}
theorem NB.s0 (h : NB w W aL aV n m cL cV v lo hi) : w.heap.size < W.heap.size := by have := h.sz; omega
theorem NB.s1 (h : NB w W aL aV n m cL cV v lo hi) : w.heap.size + 1 < W.heap.size := by have := h.sz; omega
theorem NB.below (h : NB w W aL aV n m cL cV v lo hi) (hb : Below W.heap.size W W') : NB w W' aL aV n m cL cV v lo hi :=
  ⟨(hb.cell (p := ⟨w.heap.size, 0, none⟩) h.s0).trans h.c0, (hb.cell (p := ⟨w.heap.size, 1, none⟩) h.s0).trans h.c1, (hb.cell (p := ⟨w.heap.size + 1, 0, none⟩) h.s1).trans h.p0, (hb.cell (p := ⟨w.heap.size + 1, 1, none⟩) h.s1).trans h.p1,
    (hb.cell (p := ⟨w.heap.size + 1, 2, none⟩) h.s1).trans h.p2, Nat.le_trans h.sz hb.size, thru hb h.low⟩
theorem NB.gw (h : NB w W aL aV n m cL cV v lo hi) (x : Grew) : NB w (Go.gw W x) aL aV n m cL cV v lo hi := h.below (below_gw W x)
theorem nb_of (w : World) (aL aV : Option Addr) (n m cL cV : Nat) (v lo hi : Int) (t t' : TypeId) : NB w ((w.alloc (.cells #[.slice aL n cL, .slice aV m cV] t)).alloc (.cells #[.int .i64 v, .int .i64 lo, .int .i64 hi] t')) aL aV n m cL cV v lo hi :=
  ⟨by simp [go_sem], by simp [go_sem], by simp [go_sem], by simp [go_sem], by simp [go_sem], by simp, ((Below.refl _ w).alloc (Nat.le_refl _) _).alloc (by simp) _⟩
end

theorem below_alloc (W : World) (o : Obj) : Below W.heap.size W (W.alloc o) := (Below.refl _ W).alloc (Nat.le_refl _) o

end Go.Proofs.Yticgkhoidgkejaa

namespace Go.Proofs.Yticgkhoidgkejaa
open Go.RowKit

attribute [local go_sem] gw_cell gw_frozen gw_size
attribute [local go_sem ↓] run_minZ run_maxZ

theorem DrawnAt.get {W : World} {a : Option Addr} {n : Nat} {D : Nat → Dr3} (h : DrawnAt W a n D) (hn : 0 < n) : ∃ b off, a = some ⟨b, off, none⟩ ∧ b < W.heap.size ∧ ∀ i, i < n → W.cell? ⟨b, off + i * 3, none⟩ = some (.int .i64 (D i).d) ∧ W.cell? ⟨b, off + i * 3 + 1, none⟩ = some (.int .i64 (D i).lo) ∧ W.cell? ⟨b, off + i * 3 + 2, none⟩ = some (.int .i64 (D i).hi) := by
  rcases h with h | h
  · omega
  · exact h
theorem ints_get {W : World} {a : Option Addr} {n : Nat} {M : Nat → Int} (h : IntsAt W a n M) (hn : 0 < n) : ∃ b off, a = some ⟨b, off, none⟩ ∧ b < W.heap.size ∧ ∀ i, i < n → W.cell? ⟨b, off + i, none⟩ = some (.int .i64 (M i)) := by
  rcases h with h | h
  · omega
  · exact h

/-- three numbers in a box -/
structure Box3 (W : World) (B : Nat) (x y z : Int) : Prop where
  e0 : W.cell? ⟨B, 0, none⟩ = some (.int .i64 x)
  e1 : W.cell? ⟨B, 1, none⟩ = some (.int .i64 y)
  e2 : W.cell? ⟨B, 2, none⟩ = some (.int .i64 z)
  lt : B < W.heap.size
theorem Box3.below {W W' : World} {B : Nat} {x y z : Int} (h : Box3 W B x y z) (hb : Below W.heap.size W W') : Box3 W' B x y z :=
  ⟨(hb.cell (p := ⟨B, 0, none⟩) h.lt).trans h.e0, (hb.cell (p := ⟨B, 1, none⟩) h.lt).trans h.e1, (hb.cell (p := ⟨B, 2, none⟩) h.lt).trans h.e2, Nat.lt_of_lt_of_le h.lt hb.size⟩
theorem box3_of (W : World) (x y z : Int) (t : TypeId) : Box3 (W.alloc (.cells #[.int .i64 x, .int .i64 y, .int .i64 z] t)) W.heap.size x y z :=
  ⟨by simp [go_sem], by simp [go_sem], by simp [go_sem], by simp⟩

def sumFrom (e : Int) (M : Nat → Int) : Nat → Int
  | 0 => e
  | j + 1 => sumFrom e M j + M j
theorem sumFrom_eq (e : Int) (M : Nat → Int) : ∀ j, sumFrom e M j = e + sumM M j
  | 0 => by simp [sumFrom, sumM]
  | j + 1 => by unfold sumFrom sumM; rw [sumFrom_eq e M j]; omega

end Go.Proofs.Yticgkhoidgkejaa

namespace Go.Proofs.Yticgkhoidgkejaa
open Go.RowKit

attribute [local go_sem] gw_cell gw_frozen gw_size

/-- a number, again and again -/
def seqI (f : Int → Int) (s : Int) : Nat → Int
  | 0 => s
  | n + 1 => f (seqI f s n)
theorem seqI_range {f : Int → Int} {s : Int} (hf : ∀ x, 0 ≤ x ∧ x ≤ 10000 → 0 ≤ f x ∧ f x ≤ 10000) (h0 : 0 ≤ s) (h1 : s ≤ 10000) : ∀ j, 0 ≤ seqI f s j ∧ seqI f s j ≤ 10000
  | 0 => ⟨h0, h1⟩
  | j + 1 => hf _ (seqI_range hf h0 h1 j)
theorem g_range_hi {n : Nat} {L A B : Nat → Int} (G : Hid (Good n L A B)) {x : Int} (h : 0 ≤ x ∧ x ≤ 10000) : 0 ≤ vapHi L B n x ∧ vapHi L B n x ≤ 10000 := G.out.vapHi_range h.1 h.2
theorem g_range_lo {n : Nat} {L A B : Nat → Int} (G : Hid (Good n L A B)) {x : Int} (h : 0 ≤ x ∧ x ≤ 10000) : 0 ≤ vapLo L A n x ∧ vapLo L A n x ≤ 10000 := G.out.vapLo_range h.1 h.2

/-- the first one of so many that reaches t -/
def firstGe (q : Nat → Int) (t : Int) : Nat → Nat
  | 0 => 0
  | n + 1 => if firstGe q t n = n ∧ q n < t then n + 1 else firstGe q t n
def countI (q : Nat → Int) (t : Int) : Int := if firstGe q t 101 < 101 then firstGe q t 101 else -1
theorem firstGe_le (q : Nat → Int) (t : Int) : ∀ n, firstGe q t n ≤ n
  | 0 => Nat.le_refl _
  | n + 1 => by unfold firstGe; have := firstGe_le q t n; split <;> omega
theorem firstGe_lt (q : Nat → Int) (t : Int) : ∀ n k, k < firstGe q t n → q k < t
  | 0, k, h => by simp [firstGe] at h
  | n + 1, k, h => by
    unfold firstGe at h
    split at h
    · rename_i hc
      by_cases e : k = n
      · rw [e]; exact hc.2
      · exact firstGe_lt q t n k (by rw [hc.1]; omega)
    · exact firstGe_lt q t n k h
theorem firstGe_stop (q : Nat → Int) (t : Int) : ∀ n, firstGe q t n < n → t ≤ q (firstGe q t n)
  | 0, h => by simp at h
  | n + 1, h => by
    unfold firstGe at h ⊢
    split
    · rename_i hc; simp only [hc, and_self, if_true] at h; omega
    · rename_i hc
      simp only [hc, if_false] at h
      by_cases e : firstGe q t n = n
      · rw [e]; exact Int.not_lt.1 fun hx => hc ⟨e, hx⟩
      · exact firstGe_stop q t n (by have := firstGe_le q t n; omega)
theorem firstGe_unique {q : Nat → Int} {t : Int} {n j : Nat} (hj : j < n) (h1 : ∀ k, k < j → q k < t) (h2 : t ≤ q j) : firstGe q t n = j := by
  have a := firstGe_le q t n
  rcases Nat.lt_trichotomy (firstGe q t n) j with h | h | h
  · have := firstGe_stop q t n (by omega); have := h1 _ h; omega
  · exact h
  · have := firstGe_lt q t n j h; omega
theorem countI_at {q : Nat → Int} {t : Int} {j : Nat} (hj : j < 101) (h1 : ∀ k, k < j → q k < t) (h2 : t ≤ q j) : countI q t = j := by
  unfold countI; rw [firstGe_unique hj h1 h2, if_pos hj]
theorem countI_none {q : Nat → Int} {t : Int} (h1 : ∀ k, k < 101 → q k < t) : countI q t = -1 := by
  unfold countI
  have a := firstGe_le q t 101
  rw [if_neg]
  intro h
  have := firstGe_stop q t 101 h
  have := h1 _ h
  omega
structure CountIs (q : Nat → Int) (t ct : Int) : Prop where
  eq : countI q t = ct
def AllBelow (q : Nat → Int) (t : Int) (j : Nat) : Prop := ∀ k, k < j → q k < t
theorem countI_cases (q : Nat → Int) (t : Int) : (∃ j : Nat, j ≤ 100 ∧ countI q t = j ∧ (∀ k, k < j → q k < t) ∧ t ≤ q j) ∨ (countI q t = -1 ∧ ∀ k, k < 101 → q k < t) := by
  by_cases h : firstGe q t 101 < 101
  · exact .inl ⟨firstGe q t 101, by omega, by unfold countI; rw [if_pos h], firstGe_lt q t 101, firstGe_stop q t 101 h⟩
  · have a := firstGe_le q t 101
    have e : firstGe q t 101 = 101 := by omega
    exact .inr ⟨by unfold countI; rw [if_neg h], fun k hk => firstGe_lt q t 101 k (by omega)⟩

set_option maxRecDepth 100000 in
set_option maxHeartbeats 2000000 in
theorem end_hi (lo hi : Int) (w : World) :
    Calls Try.prog 24 #[.agg #[.int .i64 lo, .int .i64 hi]] w fun e w' => e = .returned (.int .i64 hi) ∧ Below w.heap.size w w' := by
  go_enter Try.func24, Try.ntmps24
  go_wp2
  go_ret
  exact ⟨rfl, ((Below.refl _ _).alloc (Nat.le_refl _) _)⟩

set_option maxRecDepth 100000 in
set_option maxHeartbeats 1000000 in
theorem count_hi (bf bt bc b off bv offv n cL cV : Nat) (s t : Int) (L A B : Nat → Int) (w : World) (g : Good n L A B) (hC : CurveAt w bc b off bv offv n cL cV L A B) (h0 : 0 ≤ s) (h1 : s ≤ 10000)
    (hf : w.cell? ⟨bf, 0, none⟩ = some (.int .i64 s)) (ht : w.cell? ⟨bt, 0, none⟩ = some (.int .i64 t)) :
    Calls Try.prog 23 #[.func (.func 24) #[] #[], .pointer (some ⟨bf, 0, none⟩), .pointer (some ⟨bt, 0, none⟩), .pointer (some ⟨bc, 0, none⟩)] w fun e w' =>
      e = .returned (.int .i64 (countI (seqI (fun x => vapHi L B n x) s) t)) ∧ Below w.heap.size w w' := by
  have lf := World.block_lt_of_cell? w _ hf
  have lt := World.block_lt_of_cell? w _ ht
  have HC := Lib.hid hC; clear hC
  have G := Lib.hid g; clear g
  obtain ⟨q, hq⟩ : ∃ q, q = seqI (fun x => vapHi L B n x) s := ⟨_, rfl⟩
  have q0 : q 0 = s := by rw [hq]; rfl
  have QR := Lib.hid (fun j => show 0 ≤ q j ∧ q j ≤ 10000 by rw [hq]; exact seqI_range (fun x hx => g_range_hi G hx) h0 h1 j)
  have QS := Lib.hid (fun j => show q (j + 1) = vapHi L B n (q j) by rw [hq]; rfl)
  rw [← hq]
  clear hq
  obtain ⟨ct, hct⟩ : ∃ ct, countI q t = ct := ⟨_, rfl⟩
  rw [hct]
  have HCT : CountIs q t ct := ⟨hct⟩
  clear hct
  have Q0 := Lib.hid q0; clear q0
  go_enter Try.func23, Try.ntmps23
  go_wp2
  go_loopw [6, 9] (fun xs i wr => ∃ (j : Nat) (x : Int), j ≤ 101 ∧ i = .int .i64 j ∧ xs = .int .i64 x ∧ Hid (q j = x) ∧ AllBelow q t j ∧ ∃ z, wr = gw w z) (fun _ i _ => 101 - (intOf i).toNat)
  case atStart => exact ⟨0, s, by omega, rfl, rfl, Q0, fun k hk => by omega, ⟨#[], w.drawn⟩, by simp [gw]⟩
  case round =>
    obtain ⟨j, x, hj, rfl, rfl, HX, hall, z, rfl⟩ := hrel
    have HA := Lib.hid hall; clear hall
    have qr := QR.out j
    rw [HX.out] at qr
    by_cases hlt : j ≤ 100
    · by_cases hge : t ≤ x
      · have HN := Lib.hid (show ct = j by rw [← HCT.eq]; exact countI_at (by omega) HA.out (by rw [HX.out]; exact hge))
        go_wp2_with fail
        go_ret
        exact ⟨by rw [HN.out]; rfl, below_gw w z⟩
      · obtain ⟨o, HO⟩ : ∃ o, Hid (o = vapLo L A n x) := ⟨_, Lib.hid rfl⟩
        obtain ⟨y, HY⟩ : ∃ y, Hid (y = vapHi L B n x) := ⟨_, Lib.hid rfl⟩
        have V := Lib.hid (show Calls Try.prog 15 #[.pointer (some ⟨bc, 0, none⟩), .agg #[.int .i64 x, .int .i64 x]] (gw w z) (fun e w' => e = .returned (.agg #[.int .i64 o, .int .i64 y]) ∧ ∃ x', w' = gw w x') by
          rw [HY.out, HO.out]; exact Calls.gw_of (vapour_any bc b off bv offv n cL cV x x L A B _ G.out (HC.out.gw z) (by omega) (by omega) (by omega) (by omega)))
        go_wp2_with fail
        refine V.out.mono ?_
        clear V
        rintro e w1 ⟨rfl, z2, rfl⟩
        go_wp2_with fail
        refine (Calls.gw_of (end_hi _ _ _)).mono ?_
        rintro e w1 ⟨rfl, z3, rfl⟩
        go_wp2_with fail
        go_roundw
        case rel => exact ⟨j + 1, y, by omega, by go_num, rfl, Lib.hid (by rw [QS.out j, HX.out, HY.out]), all_succ HA.out (by rw [HX.out]; omega), z3, rfl⟩
        case measure => simp [intOf]; omega
    · have HN := Lib.hid (show ct = -1 by rw [← HCT.eq]; exact countI_none fun k hk => HA.out k (by omega))
      go_wp2_with fail
      go_ret
      exact ⟨by rw [HN.out]; rfl, below_gw w z⟩

set_option maxRecDepth 100000 in
set_option maxHeartbeats 2000000 in
theorem end_lo (lo hi : Int) (w : World) :
    Calls Try.prog 25 #[.agg #[.int .i64 lo, .int .i64 hi]] w fun e w' => e = .returned (.int .i64 lo) ∧ Below w.heap.size w w' := by
  go_enter Try.func25, Try.ntmps25
  go_wp2
  go_ret
  exact ⟨rfl, ((Below.refl _ _).alloc (Nat.le_refl _) _)⟩

set_option maxRecDepth 100000 in
set_option maxHeartbeats 1000000 in
theorem count_lo (bf bt bc b off bv offv n cL cV : Nat) (s t : Int) (L A B : Nat → Int) (w : World) (g : Good n L A B) (hC : CurveAt w bc b off bv offv n cL cV L A B) (h0 : 0 ≤ s) (h1 : s ≤ 10000)
    (hf : w.cell? ⟨bf, 0, none⟩ = some (.int .i64 s)) (ht : w.cell? ⟨bt, 0, none⟩ = some (.int .i64 t)) :
    Calls Try.prog 23 #[.func (.func 25) #[] #[], .pointer (some ⟨bf, 0, none⟩), .pointer (some ⟨bt, 0, none⟩), .pointer (some ⟨bc, 0, none⟩)] w fun e w' =>
      e = .returned (.int .i64 (countI (seqI (fun x => vapLo L A n x) s) t)) ∧ Below w.heap.size w w' := by
  have lf := World.block_lt_of_cell? w _ hf
  have lt := World.block_lt_of_cell? w _ ht
  have HC := Lib.hid hC; clear hC
  have G := Lib.hid g; clear g
  obtain ⟨q, hq⟩ : ∃ q, q = seqI (fun x => vapLo L A n x) s := ⟨_, rfl⟩
  have q0 : q 0 = s := by rw [hq]; rfl
  have QR := Lib.hid (fun j => show 0 ≤ q j ∧ q j ≤ 10000 by rw [hq]; exact seqI_range (fun x hx => g_range_lo G hx) h0 h1 j)
  have QS := Lib.hid (fun j => show q (j + 1) = vapLo L A n (q j) by rw [hq]; rfl)
  rw [← hq]
  clear hq
  obtain ⟨ct, hct⟩ : ∃ ct, countI q t = ct := ⟨_, rfl⟩
  rw [hct]
  have HCT : CountIs q t ct := ⟨hct⟩
  clear hct
  have Q0 := Lib.hid q0; clear q0
  go_enter Try.func23, Try.ntmps23
  go_wp2
  go_loopw [6, 9] (fun xs i wr => ∃ (j : Nat) (x : Int), j ≤ 101 ∧ i = .int .i64 j ∧ xs = .int .i64 x ∧ Hid (q j = x) ∧ AllBelow q t j ∧ ∃ z, wr = gw w z) (fun _ i _ => 101 - (intOf i).toNat)
  case atStart => exact ⟨0, s, by omega, rfl, rfl, Q0, fun k hk => by omega, ⟨#[], w.drawn⟩, by simp [gw]⟩
  case round =>
    obtain ⟨j, x, hj, rfl, rfl, HX, hall, z, rfl⟩ := hrel
    have HA := Lib.hid hall; clear hall
    have qr := QR.out j
    rw [HX.out] at qr
    by_cases hlt : j ≤ 100
    · by_cases hge : t ≤ x
      · have HN := Lib.hid (show ct = j by rw [← HCT.eq]; exact countI_at (by omega) HA.out (by rw [HX.out]; exact hge))
        go_wp2_with fail
        go_ret
        exact ⟨by rw [HN.out]; rfl, below_gw w z⟩
      · obtain ⟨o, HO⟩ : ∃ o, Hid (o = vapHi L B n x) := ⟨_, Lib.hid rfl⟩
        obtain ⟨y, HY⟩ : ∃ y, Hid (y = vapLo L A n x) := ⟨_, Lib.hid rfl⟩
        have V := Lib.hid (show Calls Try.prog 15 #[.pointer (some ⟨bc, 0, none⟩), .agg #[.int .i64 x, .int .i64 x]] (gw w z) (fun e w' => e = .returned (.agg #[.int .i64 y, .int .i64 o]) ∧ ∃ x', w' = gw w x') by
          rw [HY.out, HO.out]; exact Calls.gw_of (vapour_any bc b off bv offv n cL cV x x L A B _ G.out (HC.out.gw z) (by omega) (by omega) (by omega) (by omega)))
        go_wp2_with fail
        refine V.out.mono ?_
        clear V
        rintro e w1 ⟨rfl, z2, rfl⟩
        go_wp2_with fail
        refine (Calls.gw_of (end_lo _ _ _)).mono ?_
        rintro e w1 ⟨rfl, z3, rfl⟩
        go_wp2_with fail
        go_roundw
        case rel => exact ⟨j + 1, y, by omega, by go_num, rfl, Lib.hid (by rw [QS.out j, HX.out, HY.out]), all_succ HA.out (by rw [HX.out]; omega), z3, rfl⟩
        case measure => simp [intOf]; omega
    · have HN := Lib.hid (show ct = -1 by rw [← HCT.eq]; exact countI_none fun k hk => HA.out k (by omega))
      go_wp2_with fail
      go_ret
      exact ⟨by rw [HN.out]; rfl, below_gw w z⟩

end Go.Proofs.Yticgkhoidgkejaa

namespace Go.Proofs.Yticgkhoidgkejaa
open Go.RowKit

attribute [local go_sem] gw_cell gw_frozen gw_size

/-- a curve and two numbers were boxed -/
structure PB (w W : World) (aL aV : Option Addr) (n m cL cV : Nat) (s t : Int) : Prop where
  c0 : W.cell? ⟨w.heap.size, 0, none⟩ = some (.slice aL n cL)
  c1 : W.cell? ⟨w.heap.size, 1, none⟩ = some (.slice aV m cV)
  p0 : W.cell? ⟨w.heap.size + 1, 0, none⟩ = some (.int .i64 s)
  p1 : W.cell? ⟨w.heap.size + 1 + 1, 0, none⟩ = some (.int .i64 t)
  sz : w.heap.size + 3 ≤ W.heap.size
  low : Below w.heap.size w W
theorem pb_of (w : World) (aL aV : Option Addr) (n m cL cV : Nat) (s t : Int) (a b : TypeId) : PB w (((w.alloc (.cells #[.slice aL n cL, .slice aV m cV] a)).alloc (.cells #[.int .i64 s] b)).alloc (.cells #[.int .i64 t] b)) aL aV n m cL cV s t :=
  ⟨by simp [go_sem], by simp [go_sem], by simp [go_sem], by simp [go_sem], by simp, (((Below.refl _ w).alloc (Nat.le_refl _) _).alloc (by simp) _).alloc (by simp; omega) _⟩

def platesErr (n m : Nat) (L A B : Nat → Int) (s t : Int) : Int := if curveB n m L A B then (if inB s 0 10000 && inB t 0 10000 then 0 else 2) else 1

set_option maxRecDepth 100000 in
set_option maxHeartbeats 1000000 in
theorem plates_err (aL aV : Option Addr) (n m cL cV : Nat) (L A B : Nat → Int) (s t : Int) (w : World) (hn : n ≤ 1000000000000) (hm : m ≤ 1000000000000) (hL : IntsAt w aL n L) (hV : SpansAt w aV m A B) (x : Int) (hE : platesErr n m L A B s t = x) (hx : x ≠ 0) :
    Calls Try.prog 10 #[.agg #[.slice aL n cL, .slice aV m cV], .int .i64 s, .int .i64 t] w fun e w' => e = .returned (.tuple #[.int .i64 0, .int .i64 0, .int .i64 x]) ∧ Below w.heap.size w w' := by
  obtain ⟨W2, hW2⟩ : ∃ W2, ((w.alloc (.cells #[.slice aL n cL, .slice aV m cV] 25)).alloc (.cells #[.int .i64 s] 3)).alloc (.cells #[.int .i64 t] 3) = W2 := ⟨_, rfl⟩
  have pb : PB w W2 aL aV n m cL cV s t := by rw [← hW2]; exact pb_of w aL aV n m cL cV s t _ _
  have HL := Lib.hid (hL.below pb.low); clear hL
  have HV := Lib.hid (hV.below pb.low); clear hV
  have HW2 := Lib.hid hW2; clear hW2
  obtain ⟨c0, c1, p0, p1, sz, low⟩ := pb
  have LOW := Lib.hid low; clear low
  have s0 : w.heap.size < W2.heap.size := by omega
  have s1 : w.heap.size + 1 < W2.heap.size := by omega
  have s2 : w.heap.size + 1 + 1 < W2.heap.size := by omega
  cases hc : curveB n m L A B with
  | false =>
    obtain rfl : x = 1 := by rw [← hE]; unfold platesErr; rw [hc]; rfl
    clear hE hx
    have H1 := Lib.hid hc; clear hc
    go_enter Try.func10, Try.ntmps10
    go_wp2_with fail
    rw [HW2.out]
    refine (Calls.grown (isCurve_b aL aV n m cL cV L A B W2 hn hm HL.out HV.out H1.out)).mono ?_
    rintro e w1 ⟨rfl, y, rfl⟩
    go_wp2_with fail
    go_ret3
    exact ⟨rfl, LOW.out.gw y⟩
  | true =>
    have H1 := Lib.hid hc
    cases h2 : inB s 0 10000 with
    | false =>
      obtain rfl : x = 2 := by rw [← hE]; unfold platesErr; rw [hc, h2]; rfl
      clear hE hx hc
      have H2 := Lib.hid h2; clear h2
      go_enter Try.func10, Try.ntmps10
      go_wp2_with fail
      rw [HW2.out]
      refine (Calls.grown (isCurve_b aL aV n m cL cV L A B W2 hn hm HL.out HV.out H1.out)).mono ?_
      rintro e w1 ⟨rfl, y, rfl⟩
      go_wp2_with fail
      refine (within_b _ _ _ _ H2.out).mono ?_
      rintro e w1 ⟨rfl, rfl⟩
      go_wp2_with fail
      go_ret3
      exact ⟨rfl, LOW.out.gw y⟩
    | true =>
      have H2 := Lib.hid h2
      cases h3 : inB t 0 10000 with
      | false =>
        obtain rfl : x = 2 := by rw [← hE]; unfold platesErr; rw [hc, h2, h3]; rfl
        clear hE hx hc h2
        have H3 := Lib.hid h3; clear h3
        go_enter Try.func10, Try.ntmps10
        go_wp2_with fail
        rw [HW2.out]
        refine (Calls.grown (isCurve_b aL aV n m cL cV L A B W2 hn hm HL.out HV.out H1.out)).mono ?_
        rintro e w1 ⟨rfl, y, rfl⟩
        go_wp2_with fail
        refine (within_b _ _ _ _ H2.out).mono ?_
        rintro e w1 ⟨rfl, rfl⟩
        go_wp2_with fail
        refine (within_b _ _ _ _ H3.out).mono ?_
        rintro e w1 ⟨rfl, rfl⟩
        go_wp2_with fail
        go_ret3
        exact ⟨rfl, LOW.out.gw y⟩
      | true => exact absurd (by rw [← hE]; unfold platesErr; rw [hc, h2, h3]; rfl) hx

theorem plates_valid {n m : Nat} {L A B : Nat → Int} {s t : Int} (h : platesErr n m L A B s t = 0) : curveB n m L A B = true ∧ inB s 0 10000 = true ∧ inB t 0 10000 = true := by
  unfold platesErr at h
  split at h
  · rename_i h1
    split at h
    · rename_i h2
      simp only [Bool.and_eq_true] at h2
      exact ⟨h1, h2.1, h2.2⟩
    · omega
  · omega

/-- what Plates returns -/
def PlatesEnd (ch cl : Int) (e : Ending) : Prop := e = .returned (if ch < 0 then .tuple #[.int .i64 0, .int .i64 0, .int .i64 12] else .tuple #[.int .i64 ch, .int .i64 cl, .int .i64 0])

set_option maxRecDepth 100000 in
set_option maxHeartbeats 1000000 in
theorem plates_ok (aL aV : Option Addr) (n m cL cV : Nat) (L A B : Nat → Int) (s t : Int) (w : World) (hn : n ≤ 1000000000000) (hm : m ≤ 1000000000000) (hL : IntsAt w aL n L) (hV : SpansAt w aV m A B) (hE : platesErr n m L A B s t = 0)
    (ch cl : Int) (hh : CountIs (seqI (fun x => vapHi L B n x) s) t ch) (hl : CountIs (seqI (fun x => vapLo L A n x) s) t cl) :
    Calls Try.prog 10 #[.agg #[.slice aL n cL, .slice aV m cV], .int .i64 s, .int .i64 t] w fun e w' => PlatesEnd ch cl e ∧ Below w.heap.size w w' := by
  have hmf : ∀ (fn : Fn) (first cap : Array Value) (w : World), (Instr.makeFunc fn first cap).run Try.prog w = .ok (.func fn first cap) w := fun _ _ _ _ => rfl
  obtain ⟨W2, hW2⟩ : ∃ W2, ((w.alloc (.cells #[.slice aL n cL, .slice aV m cV] 25)).alloc (.cells #[.int .i64 s] 3)).alloc (.cells #[.int .i64 t] 3) = W2 := ⟨_, rfl⟩
  have pb : PB w W2 aL aV n m cL cV s t := by rw [← hW2]; exact pb_of w aL aV n m cL cV s t _ _
  obtain ⟨e1, e2, e3⟩ := plates_valid hE
  obtain ⟨em, g⟩ := good_of e1
  subst em
  have r2 := inB_t.1 e2
  have r3 := inB_t.1 e3
  have hL2 := hL.below pb.low
  have hV2 := hV.below pb.low
  have two := g.two
  have HL := Lib.hid hL2
  have HV := Lib.hid hV2
  have hCA : ∃ b off bv offv, CurveAt W2 w.heap.size b off bv offv m cL cV L A B := by
    rcases hL2 with h | ⟨b, off, rfl, hb, hls⟩
    · omega
    rcases hV2 with h | ⟨bv, offv, rfl, hbv, hvs⟩
    · omega
    exact ⟨b, off, bv, offv, by have := pb.sz; omega, pb.c0, pb.c1, hb, hbv, hls, hvs⟩
  obtain ⟨b, off, bv, offv, hC⟩ := hCA
  have CH := Lib.hid (fun y => show Calls Try.prog 23 #[.func (.func 24) #[] #[], .pointer (some ⟨w.heap.size + 1, 0, none⟩), .pointer (some ⟨w.heap.size + 1 + 1, 0, none⟩), .pointer (some ⟨w.heap.size, 0, none⟩)] (gw W2 y) fun e w' => e = .returned (.int .i64 ch) ∧ ∃ x, w' = gw W2 x by
    rw [← hh.eq]; exact Calls.gw_of (count_hi (w.heap.size + 1) (w.heap.size + 1 + 1) w.heap.size b off bv offv m cL cV s t L A B _ g (hC.gw y) r2.1 r2.2 ((gw_cell (by have := pb.sz; show w.heap.size + 1 < _; omega)).trans pb.p0) ((gw_cell (by have := pb.sz; show w.heap.size + 1 + 1 < _; omega)).trans pb.p1)))
  have CL := Lib.hid (fun y => show Calls Try.prog 23 #[.func (.func 25) #[] #[], .pointer (some ⟨w.heap.size + 1, 0, none⟩), .pointer (some ⟨w.heap.size + 1 + 1, 0, none⟩), .pointer (some ⟨w.heap.size, 0, none⟩)] (gw W2 y) fun e w' => e = .returned (.int .i64 cl) ∧ ∃ x, w' = gw W2 x by
    rw [← hl.eq]; exact Calls.gw_of (count_lo (w.heap.size + 1) (w.heap.size + 1 + 1) w.heap.size b off bv offv m cL cV s t L A B _ g (hC.gw y) r2.1 r2.2 ((gw_cell (by have := pb.sz; show w.heap.size + 1 < _; omega)).trans pb.p0) ((gw_cell (by have := pb.sz; show w.heap.size + 1 + 1 < _; omega)).trans pb.p1)))
  have H1 := Lib.hid e1; clear e1
  have H2 := Lib.hid e2; clear e2
  have H3 := Lib.hid e3; clear e3
  have HW2 := Lib.hid hW2; clear hW2 hL hV hL2 hV2 hE hC hh hl g
  obtain ⟨c0, c1, p0, p1, sz, low⟩ := pb
  have LOW := Lib.hid low; clear low
  have s0 : w.heap.size < W2.heap.size := by omega
  have s1 : w.heap.size + 1 < W2.heap.size := by omega
  have s2 : w.heap.size + 1 + 1 < W2.heap.size := by omega
  by_cases hneg : ch < 0
  all_goals
    go_enter Try.func10, Try.ntmps10
    go_wp2_with fail
    rw [HW2.out]
    refine (Calls.grown (isCurve_b aL aV m m cL cV L A B W2 hn hm HL.out HV.out H1.out)).mono ?_
    rintro e w1 ⟨rfl, y, rfl⟩
    go_wp2_with fail
    refine (within_b _ _ _ _ H2.out).mono ?_
    rintro e w1 ⟨rfl, rfl⟩
    go_wp2_with fail
    refine (within_b _ _ _ _ H3.out).mono ?_
    rintro e w1 ⟨rfl, rfl⟩
    go_wp2_with fail
    refine (CH.out y).mono ?_
    rintro e w1 ⟨rfl, y1, rfl⟩
    go_wp2_with fail
    refine (CL.out y1).mono ?_
    rintro e w1 ⟨rfl, y2, rfl⟩
    go_wp2_with fail
    go_ret3
    first
      | exact ⟨by unfold PlatesEnd; rw [if_pos hneg]; rfl, LOW.out.gw y2⟩
      | exact ⟨by unfold PlatesEnd; rw [if_neg (by omega)]; rfl, LOW.out.gw y2⟩

set_option maxRecDepth 100000 in
set_option maxHeartbeats 1000000 in
theorem vapourP_ok (aL aV : Option Addr) (n cL cV : Nat) (L A B : Nat → Int) (lo hi : Int) (w : World) (hn : n ≤ 1000000000000) (hL : IntsAt w aL n L) (hV : SpansAt w aV n A B) (hc : curveB n n L A B = true) (hs : spanB lo hi 0 10000 = true)
    (a b : Int) (HA : Hid (vapLo L A n lo = a)) (HB : Hid (vapHi L B n hi = b)) :
    Calls Try.prog 5 #[.agg #[.slice aL n cL, .slice aV n cV], .agg #[.int .i64 lo, .int .i64 hi]] w fun e w' => e = .returned (.tuple #[.agg #[.int .i64 a, .int .i64 b], .int .i64 0]) ∧ Below w.heap.size w w' := by
  obtain ⟨W2, hW2⟩ : ∃ W2, ((w.alloc (.cells #[.slice aL n cL, .slice aV n cV] 25)).alloc (.cells #[.int .i64 lo, .int .i64 hi] 27)).alloc (.cells #[.int .i64 0, .int .i64 0] 27) = W2 := ⟨_, rfl⟩
  have low : Below w.heap.size w W2 := by rw [← hW2]; exact (((Below.refl _ w).alloc (Nat.le_refl _) _).alloc (by simp) _).alloc (by simp; omega) _
  have c0 : W2.cell? ⟨w.heap.size, 0, none⟩ = some (.slice aL n cL) := by rw [← hW2]; simp [go_sem]
  have c1 : W2.cell? ⟨w.heap.size, 1, none⟩ = some (.slice aV n cV) := by rw [← hW2]; simp [go_sem]
  have p0 : W2.cell? ⟨w.heap.size + 1, 0, none⟩ = some (.int .i64 lo) := by rw [← hW2]; simp [go_sem]
  have p1 : W2.cell? ⟨w.heap.size + 1, 1, none⟩ = some (.int .i64 hi) := by rw [← hW2]; simp [go_sem]
  have sz : w.heap.size + 3 ≤ W2.heap.size := by rw [← hW2]; simp
  have q0 : W2.cell? ⟨w.heap.size + 1 + 1, 0, none⟩ = some (.int .i64 0) := by rw [← hW2]; simp [go_sem]
  have q1 : W2.cell? ⟨w.heap.size + 1 + 1, 1, none⟩ = some (.int .i64 0) := by rw [← hW2]; simp [go_sem]
  have q2 : W2.frozen? ⟨w.heap.size + 1 + 1, 0, none⟩ = false := by rw [← hW2]; simp [go_sem]
  have q3 : W2.frozen? ⟨w.heap.size + 1 + 1, 1, none⟩ = false := by rw [← hW2]; simp [go_sem]
  obtain ⟨_, g⟩ := good_of hc
  have two := g.two
  have rs := spanB_t.1 hs
  have hL2 := hL.below low
  have hV2 := hV.below low
  have HL := Lib.hid hL2
  have HV := Lib.hid hV2
  have hCA : ∃ b off bv offv, CurveAt W2 w.heap.size b off bv offv n cL cV L A B := by
    rcases hL2 with h | ⟨b, off, rfl, hb, hls⟩
    · omega
    rcases hV2 with h | ⟨bv, offv, rfl, hbv, hvs⟩
    · omega
    exact ⟨b, off, bv, offv, by omega, c0, c1, hb, hbv, hls, hvs⟩
  obtain ⟨b', off, bv, offv, hC⟩ := hCA
  have V := Lib.hid (fun y => show Calls Try.prog 15 #[.pointer (some ⟨w.heap.size, 0, none⟩), .agg #[.int .i64 lo, .int .i64 hi]] (gw W2 y) (fun e w' => e = .returned (.agg #[.int .i64 a, .int .i64 b]) ∧ ∃ x', w' = gw W2 x') by
    rw [← HA.out, ← HB.out]; exact Calls.gw_of (vapour_any w.heap.size b' off bv offv n cL cV lo hi L A B _ g (hC.gw y) (by omega) (by omega) (by omega) (by omega)))
  have H1 := Lib.hid hc; clear hc
  have H2 := Lib.hid hs; clear hs
  have HW2 := Lib.hid hW2; clear hW2 hL hV hL2 hV2 hC g HA HB
  have LOW := Lib.hid low; clear low
  have s0 : w.heap.size < W2.heap.size := by omega
  have s1 : w.heap.size + 1 < W2.heap.size := by omega
  have s2 : w.heap.size + 1 + 1 < W2.heap.size := by omega
  go_enter Try.func5, Try.ntmps5
  go_wp2_with fail
  rw [HW2.out]
  refine (Calls.grown (isCurve_b aL aV n n cL cV L A B W2 hn hn HL.out HV.out H1.out)).mono ?_
  rintro e w1 ⟨rfl, y, rfl⟩
  go_wp2_with fail
  refine (Calls.gw_of (isSpan_b _ _ _ _ _ H2.out)).mono ?_
  rintro e w1 ⟨rfl, y1, rfl⟩
  go_wp2_with fail
  refine (V.out y1).mono ?_
  clear V
  rintro e w1 ⟨rfl, y2, rfl⟩
  go_wp2_with fail
  refine bodyPost_ret (v := .tuple #[.agg #[.int .i64 a, .int .i64 b], .int .i64 0]) (by simp [results, Try.results5, go_sem, q0, q1, s2]) rfl ⟨rfl, ?_⟩
  exact ((LOW.out.gw y2).setCell (by simp; omega) _).setCell (by simp; omega) _
end Go.Proofs.Yticgkhoidgkejaa
