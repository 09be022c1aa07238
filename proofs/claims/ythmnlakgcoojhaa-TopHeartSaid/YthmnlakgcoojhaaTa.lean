/- Contract of Mix. No conditions beyond each theorem's own. -/
import Derived.Test.YthmnlakgcoojhaaSc
import Derived.Test.YthmnlakgcoojhaaSo
import Derived.Test.YthmnlakgcoojhaaSs
set_option linter.unusedVariables false
set_option linter.unusedSimpArgs false
set_option linter.unusedSectionVars false
set_option linter.constructorNameAsVariable false
namespace Go.Proofs.Ythmnlakgcoojhaa.L1
open Go.RowKit
open Go.Proofs.Ythmnlakgcoojhaa

attribute [local go_sem] gw_cell gw_frozen gw_size

def sumI (f : Nat → Int) : Nat → Int
  | 0 => 0
  | k + 1 => sumI f k + f k
theorem sumI_le {f : Nat → Int} {n : Nat} {c : Int} (h : ∀ i, i < n → f i ≤ c) : ∀ k, k ≤ n → sumI f k ≤ (k : Int) * c
  | 0, _ => by simp [sumI]
  | k + 1, hk => by
    have a := sumI_le h k (by omega)
    have b := h k (by omega)
    have e : ((k + 1 : Nat) : Int) * c = (k : Int) * c + c := by rw [show ((k + 1 : Nat) : Int) = (k : Int) + 1 from rfl, Int.add_mul, Int.one_mul]
    unfold sumI; omega
theorem sumI_mono {f g : Nat → Int} {n : Nat} (h : ∀ i, i < n → f i ≤ g i) : ∀ k, k ≤ n → sumI f k ≤ sumI g k
  | 0, _ => by simp [sumI]
  | k + 1, hk => by
    have a := sumI_mono h k (by omega)
    have b := h k (by omega)
    unfold sumI; omega
theorem sumI_nn {f : Nat → Int} {n : Nat} (h : ∀ i, i < n → 0 ≤ f i) : ∀ k, k ≤ n → 0 ≤ sumI f k
  | 0, _ => by simp [sumI]
  | k + 1, hk => by
    have a := sumI_nn h k (by omega)
    have b := h k (by omega)
    unfold sumI; omega

def Prt.ok (x : Prt) : Bool := partB x.al x.ah x.sl x.sh
/-- the sums of amounts and of pure alcohol -/
def mAl (P : Nat → Prt) : Nat → Int := sumI fun i => (P i).al
def mAh (P : Nat → Prt) : Nat → Int := sumI fun i => (P i).ah
def mLl (P : Nat → Prt) : Nat → Int := sumI fun i => puLo (P i).al (P i).sl
def mLh (P : Nat → Prt) : Nat → Int := sumI fun i => puHi (P i).ah (P i).sh
def mLeast (n : Nat) (P : Nat → Prt) (k : Int) : Int := mAl P n * (10000 - k)
def mixE (n : Nat) (P : Nat → Prt) (k : Int) : Int :=
  if 64 < n then 3 else if allB n (fun i => (P i).ok) = true then (if inB k 0 1000 = true then (if 1099511627776 < mAh P n then 11 else if mAl P n = 0 then 4 else 0) else 2) else 1
def mixV (n : Nat) (P : Nat → Prt) (k : Int) : Prt :=
  if mixE n P k = 0 then ⟨mLeast n P k / 10000, mAh P n, min 10000 (mLl P n * 10000 / mAh P n), min 10000 (upI (mLh P n * 10000 * 10000) (mLeast n P k))⟩ else ⟨0, 0, 0, 0⟩

theorem puHi_le {b d : Int} (h0 : 0 ≤ b) (h1 : b ≤ 1099511627776) (h2 : 0 ≤ d) (h3 : d ≤ 10000) : 0 ≤ puHi b d ∧ puHi b d ≤ 1099511627776 := by
  have p0 := Int.mul_nonneg h0 h2
  have p1 := Int.mul_le_mul h1 h3 h2 (by omega)
  exact ⟨upI_nonneg p0 (by decide), upI_le (by decide) (by omega)⟩
theorem puLo_le {a c : Int} (h0 : 0 ≤ a) (h1 : a ≤ 1099511627776) (h2 : 0 ≤ c) (h3 : c ≤ 10000) : 0 ≤ puLo a c ∧ puLo a c ≤ 1099511627776 := by
  have p0 := Int.mul_nonneg h0 h2
  have p1 := Int.mul_le_mul h1 h3 h2 (by omega)
  unfold puLo
  exact ⟨Int.ediv_nonneg p0 (by decide), by omega⟩
structure MixB (n : Nat) (P : Nat → Prt) (k : Nat) : Prop where
  a0 : 0 ≤ mAl P k
  a1 : mAl P k ≤ 70368744177664
  b0 : 0 ≤ mAh P k
  b1 : mAh P k ≤ 70368744177664
  c0 : 0 ≤ mLl P k
  c1 : mLl P k ≤ 70368744177664
  d0 : 0 ≤ mLh P k
  d1 : mLh P k ≤ 70368744177664
  ab : mAl P k ≤ mAh P k
theorem mix_b {n : Nat} {P : Nat → Prt} (hn : n ≤ 64) (h : ∀ i, i < n → (P i).ok = true) {k : Nat} (hk : k ≤ n) : MixB n P k := by
  have q := fun i hi => partB_t (h i hi)
  have kc : (k : Int) * 1099511627776 ≤ 70368744177664 := by omega
  refine ⟨sumI_nn (fun i hi => ?_) k hk, Int.le_trans (sumI_le (fun i hi => ?_) k hk) kc, sumI_nn (fun i hi => ?_) k hk, Int.le_trans (sumI_le (fun i hi => ?_) k hk) kc, sumI_nn (fun i hi => ?_) k hk, Int.le_trans (sumI_le (fun i hi => ?_) k hk) kc, sumI_nn (fun i hi => ?_) k hk, Int.le_trans (sumI_le (fun i hi => ?_) k hk) kc, sumI_mono (fun i hi => ?_) k hk⟩ <;> obtain ⟨q1, q2, q3, q4, q5, q6⟩ := q i hi
  · omega
  · omega
  · omega
  · omega
  · exact (puLo_le q1 (by omega) q4 (by omega)).1
  · exact (puLo_le q1 (by omega) q4 (by omega)).2
  · exact (puHi_le (by omega) q3 (by omega) q6).1
  · exact (puHi_le (by omega) q3 (by omega) q6).2
  · omega

/-- the state between two rounds -/
structure MixJ (w V : World) (b6 : Nat) (P : Nat → Prt) (k : Nat) : Prop where
  keep : Below w.heap.size w V
  r : V.heap[w.heap.size]? = some (.cells #[.int .i64 0, .int .i64 0, .int .i64 0, .int .i64 0] 41 (0, 0))
  a : V.heap[b6]? = some (.cells #[.int .i64 (mAl P k), .int .i64 (mAh P k)] 27 (0, 0))
  l : V.heap[b6 + 1]? = some (.cells #[.int .i64 (mLl P k), .int .i64 (mLh P k)] 27 (0, 0))
  lt : w.heap.size < b6

theorem upI_nat {z l : Nat} (h : 1 ≤ l) : upI (z : Int) (l : Int) = if z % l = 0 then ((z / l : Nat) : Int) else ((z / l + 1 : Nat) : Int) := by
  have e := Nat.div_add_mod z l
  have m := Nat.mod_lt z (show l > 0 by omega)
  obtain ⟨q, hq⟩ : ∃ q, z / l = q := ⟨_, rfl⟩
  obtain ⟨r, hr⟩ : ∃ r, z % l = r := ⟨_, rfl⟩
  rw [hq, hr] at e
  rw [hr] at m
  rw [hq, hr]
  unfold upI
  have e' : (z : Int) = (l : Int) * q + r := by exact_mod_cast e.symm
  rw [e']
  by_cases h0 : r = 0
  · subst h0
    rw [if_pos rfl]
    rw [show (l : Int) * q + ((0 : Nat) : Int) + l - 1 = (l - 1) + (l : Int) * q by omega, Int.add_mul_ediv_left _ _ (by omega), Int.ediv_eq_zero_of_lt (by omega) (by omega)]
    omega
  · rw [if_neg h0]
    rw [show (l : Int) * q + (r : Int) + l - 1 = (r - 1 : Int) + (l : Int) * (q + 1) by rw [Int.mul_add, Int.mul_one]; omega, Int.add_mul_ediv_left _ _ (by omega), Int.ediv_eq_zero_of_lt (by omega) (by omega)]
    omega

set_option maxRecDepth 100000 in
set_option maxHeartbeats 2000000 in
theorem Mix_bad (a : Option Addr) (n c : Nat) (P : Nat → Prt) (k : Int) (w : World) (hn : n ≤ 9223372036854775807) (hS : PartsAt w a n P) (h : ¬ (n ≤ 64 ∧ allB n (fun i => (P i).ok) = true ∧ inB k 0 1000 = true)) :
    Calls Try.prog 7 #[.slice a n c, .int .i64 k] w fun e w' => e = .returned (.tuple #[.agg #[.int .i64 (mixV n P k).al, .int .i64 (mixV n P k).ah, .int .i64 (mixV n P k).sl, .int .i64 (mixV n P k).sh], .int .i64 (mixE n P k)]) ∧ Below w.heap.size w w' := by
  obtain ⟨W1, hW1⟩ : ∃ W1, w.alloc (.cells #[.int .i64 0, .int .i64 0, .int .i64 0, .int .i64 0] 41) = W1 := ⟨_, rfl⟩
  have hBc : Below w.heap.size w W1 := by rw [← hW1]; exact below_alloc _ _
  have zc0 : W1.heap[w.heap.size]? = some (.cells #[.int .i64 0, .int .i64 0, .int .i64 0, .int .i64 0] 41 (0, 0)) := by rw [← hW1]; exact alloc_at rfl
  have c00 : W1.cell? ⟨w.heap.size, 0, none⟩ = some (.int .i64 0) := cell_of_block zc0 0 (by simp)
  have c01 : W1.cell? ⟨w.heap.size, 1, none⟩ = some (.int .i64 0) := cell_of_block zc0 1 (by simp)
  have c02 : W1.cell? ⟨w.heap.size, 2, none⟩ = some (.int .i64 0) := cell_of_block zc0 2 (by simp)
  have c03 : W1.cell? ⟨w.heap.size, 3, none⟩ = some (.int .i64 0) := cell_of_block zc0 3 (by simp)
  have lc0 := (Array.getElem?_eq_some_iff.1 zc0).1
  have fc00 := frozen_of_block zc0 0
  have fc01 := frozen_of_block zc0 1
  have fc02 := frozen_of_block zc0 2
  have fc03 := frozen_of_block zc0 3
  clear zc0
  have HBc := Lib.hid hBc; clear hBc
  have HWc := Lib.hid hW1; clear hW1
  have AL := Lib.hid (allP 19 #[] (enters_of Try.func19 (by kernel_rfl) rfl) (fun i => (P i).ok) a n c P W1 hn (hS.below HBc.out) (fun W i hb hi => isPart_any _ _ _ _ W))
  have IN := Lib.hid (fun w => within_any k 0 1000 w)
  clear hS
  by_cases h0 : 64 < n
  · skip
    have e3 : mixE n P k = 3 := by unfold mixE; simp [h0]
    have e1 : mixV n P k = ⟨0, 0, 0, 0⟩ := if_neg (by rw [e3]; decide)
    rw [e1, e3]
    clear e1 e3 h AL IN
    go_enter Try.func7, Try.ntmps7
    go_upto_region 1 with (fail)
    rw [HWc.out]
    go_wp2_with fail
    refine bodyPost_ret (v := .tuple #[.agg #[.int .i64 0, .int .i64 0, .int .i64 0, .int .i64 0], .int .i64 3]) (by simp [results, Try.results7, go_sem, *]) rfl ⟨rfl, ?_⟩
    exact (((((HBc.out).setCell (by simp <;> omega) _).setCell (by simp <;> omega) _).setCell (by simp <;> omega) _).setCell (by simp <;> omega) _)
  · cases h1 : allB n (fun i => (P i).ok) with
    | false =>
      have e3 : mixE n P k = 1 := by unfold mixE; simp [h0, h1]
      have e1 : mixV n P k = ⟨0, 0, 0, 0⟩ := if_neg (by rw [e3]; decide)
      rw [e1, e3]
      rw [h1] at AL
      clear e1 e3 h h1 IN
      go_enter Try.func7, Try.ntmps7
      go_upto_region 1 with (fail)
      rw [HWc.out]
      go_wp2_with fail
      refine (Calls.grown AL.out).mono ?_
      rintro e w1 ⟨rfl, z1, rfl⟩
      go_wp2_with fail
      refine bodyPost_ret (v := .tuple #[.agg #[.int .i64 0, .int .i64 0, .int .i64 0, .int .i64 0], .int .i64 1]) (by simp [results, Try.results7, go_sem, *]) rfl ⟨rfl, ?_⟩
      exact (((((HBc.out.gw z1).setCell (by simp <;> omega) _).setCell (by simp <;> omega) _).setCell (by simp <;> omega) _).setCell (by simp <;> omega) _)
    | true =>
      have h2 : inB k 0 1000 = false := by cases h2 : inB k 0 1000 with | false => rfl | true => exact absurd ⟨by omega, h1, h2⟩ h
      have e3 : mixE n P k = 2 := by unfold mixE; simp [h0, h1, h2]
      have e1 : mixV n P k = ⟨0, 0, 0, 0⟩ := if_neg (by rw [e3]; decide)
      rw [e1, e3]
      rw [h1] at AL
      simp only [h2] at IN
      clear e1 e3 h h1 h2
      go_enter Try.func7, Try.ntmps7
      go_upto_region 1 with (fail)
      rw [HWc.out]
      go_wp2_with fail
      refine (Calls.grown AL.out).mono ?_
      rintro e w1 ⟨rfl, z1, rfl⟩
      go_wp2_with fail
      refine (IN.out _).mono ?_
      rintro e w1 ⟨rfl, rfl⟩
      go_wp2_with fail
      refine bodyPost_ret (v := .tuple #[.agg #[.int .i64 0, .int .i64 0, .int .i64 0, .int .i64 0], .int .i64 2]) (by simp [results, Try.results7, go_sem, *]) rfl ⟨rfl, ?_⟩
      exact (((((HBc.out.gw z1).setCell (by simp <;> omega) _).setCell (by simp <;> omega) _).setCell (by simp <;> omega) _).setCell (by simp <;> omega) _)
end Go.Proofs.Ythmnlakgcoojhaa.L1
