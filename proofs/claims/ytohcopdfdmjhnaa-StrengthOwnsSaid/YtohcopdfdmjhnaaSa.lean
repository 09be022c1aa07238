/- Contracts of the tests of numbers and spans, of fractions, of pure alcohol. No conditions beyond each theorem's own. -/
import Derived.Test.YtohcopdfdmjhnaaProg
import Derived.Test.YtohcopdfdmjhnaaPb
import Derived.Test.YtohcopdfdmjhnaaAl
import Derived.Lib.Hide
set_option linter.unusedVariables false
set_option linter.unusedSimpArgs false
set_option linter.unusedSectionVars false
set_option linter.constructorNameAsVariable false
namespace Go.Proofs.Ytohcopdfdmjhnaa.L1
open Go.RowKit
open Go.Proofs.Ytohcopdfdmjhnaa

attribute [local go_sem] gw_cell gw_frozen gw_size

set_option maxHeartbeats 400000 in
theorem within_any (n lo hi : Int) (w : World) :
    Calls Try.prog 62 #[.int .i64 n, .int .i64 lo, .int .i64 hi] w fun e w' => e = .returned (.bool (inB n lo hi)) ∧ w = w' := by
  by_cases h1 : lo ≤ n
  · by_cases h2 : n ≤ hi
    · have hb : inB n lo hi = true := by simp [inB, h1, h2]
      rw [hb]; clear hb
      go_enter Try.func62, Try.ntmps62
      go_wp2
      go_ret
      exact ⟨rfl, rfl⟩
    · have hb : inB n lo hi = false := by simp [inB, h2]
      rw [hb]; clear hb
      go_enter Try.func62, Try.ntmps62
      go_wp2
      go_ret
      exact ⟨rfl, rfl⟩
  · have hb : inB n lo hi = false := by simp [inB, h1]
    rw [hb]; clear hb
    go_enter Try.func62, Try.ntmps62
    go_wp2
    go_ret
    exact ⟨rfl, rfl⟩
theorem within_b {b : Bool} (n lo hi : Int) (w : World) (h : inB n lo hi = b) :
    Calls Try.prog 62 #[.int .i64 n, .int .i64 lo, .int .i64 hi] w fun e w' => e = .returned (.bool b) ∧ w = w' := h ▸ within_any n lo hi w

set_option maxHeartbeats 400000 in
theorem rin_any (n lo hi : Int) (w : World) :
    Calls Try.prog 56 #[.int .i64 n, .int .i64 lo, .int .i64 hi] w fun e w' => e = .returned (.bool (inB n lo hi)) ∧ w = w' := by
  by_cases h1 : lo ≤ n
  · by_cases h2 : n ≤ hi
    · have hb : inB n lo hi = true := by simp [inB, h1, h2]
      rw [hb]; clear hb
      go_enter Try.func56, Try.ntmps56
      go_wp2
      go_ret
      exact ⟨rfl, rfl⟩
    · have hb : inB n lo hi = false := by simp [inB, h2]
      rw [hb]; clear hb
      go_enter Try.func56, Try.ntmps56
      go_wp2
      go_ret
      exact ⟨rfl, rfl⟩
  · have hb : inB n lo hi = false := by simp [inB, h1]
    rw [hb]; clear hb
    go_enter Try.func56, Try.ntmps56
    go_wp2
    go_ret
    exact ⟨rfl, rfl⟩
theorem rin_b {b : Bool} (n lo hi : Int) (w : World) (h : inB n lo hi = b) :
    Calls Try.prog 56 #[.int .i64 n, .int .i64 lo, .int .i64 hi] w fun e w' => e = .returned (.bool b) ∧ w = w' := h ▸ rin_any n lo hi w

set_option maxHeartbeats 400000 in
theorem isSpan_any (lo hi low high : Int) (w : World) :
    Calls Try.prog 75 #[.agg #[.int .i64 lo, .int .i64 hi], .int .i64 low, .int .i64 high] w fun e w' => e = .returned (.bool (spanB lo hi low high)) ∧ Below w.heap.size w w' := by
  by_cases h1 : low ≤ lo
  · by_cases h2 : lo ≤ hi
    · by_cases h3 : hi ≤ high
      · have hb : spanB lo hi low high = true := by simp [spanB, h1, h2, h3]
        rw [hb]; clear hb
        go_enter Try.func75, Try.ntmps75
        go_wp2
        go_ret
        exact ⟨rfl, (Below.refl _ _).alloc (Nat.le_refl _) _⟩
      · have hb : spanB lo hi low high = false := by simp [spanB, h3]
        rw [hb]; clear hb
        go_enter Try.func75, Try.ntmps75
        go_wp2
        go_ret
        exact ⟨rfl, (Below.refl _ _).alloc (Nat.le_refl _) _⟩
    · have hb : spanB lo hi low high = false := by simp [spanB, h2]
      rw [hb]; clear hb
      go_enter Try.func75, Try.ntmps75
      go_wp2
      go_ret
      exact ⟨rfl, (Below.refl _ _).alloc (Nat.le_refl _) _⟩
  · have hb : spanB lo hi low high = false := by simp [spanB, h1]
    rw [hb]; clear hb
    go_enter Try.func75, Try.ntmps75
    go_wp2
    go_ret
    exact ⟨rfl, (Below.refl _ _).alloc (Nat.le_refl _) _⟩
theorem isSpan_b {b : Bool} (lo hi low high : Int) (w : World) (h : spanB lo hi low high = b) :
    Calls Try.prog 75 #[.agg #[.int .i64 lo, .int .i64 hi], .int .i64 low, .int .i64 high] w fun e w' => e = .returned (.bool b) ∧ Below w.heap.size w w' := h ▸ isSpan_any lo hi low high w

set_option maxHeartbeats 400000 in
theorem rwithin_any (lo hi low high : Int) (w : World) :
    Calls Try.prog 58 #[.agg #[.int .i64 lo, .int .i64 hi], .int .i64 low, .int .i64 high] w fun e w' => e = .returned (.bool (spanB lo hi low high)) ∧ Below w.heap.size w w' := by
  by_cases h1 : low ≤ lo
  · by_cases h2 : lo ≤ hi
    · by_cases h3 : hi ≤ high
      · have hb : spanB lo hi low high = true := by simp [spanB, h1, h2, h3]
        rw [hb]; clear hb
        go_enter Try.func58, Try.ntmps58
        go_wp2
        go_ret
        exact ⟨rfl, (Below.refl _ _).alloc (Nat.le_refl _) _⟩
      · have hb : spanB lo hi low high = false := by simp [spanB, h3]
        rw [hb]; clear hb
        go_enter Try.func58, Try.ntmps58
        go_wp2
        go_ret
        exact ⟨rfl, (Below.refl _ _).alloc (Nat.le_refl _) _⟩
    · have hb : spanB lo hi low high = false := by simp [spanB, h2]
      rw [hb]; clear hb
      go_enter Try.func58, Try.ntmps58
      go_wp2
      go_ret
      exact ⟨rfl, (Below.refl _ _).alloc (Nat.le_refl _) _⟩
  · have hb : spanB lo hi low high = false := by simp [spanB, h1]
    rw [hb]; clear hb
    go_enter Try.func58, Try.ntmps58
    go_wp2
    go_ret
    exact ⟨rfl, (Below.refl _ _).alloc (Nat.le_refl _) _⟩
theorem rwithin_b {b : Bool} (lo hi low high : Int) (w : World) (h : spanB lo hi low high = b) :
    Calls Try.prog 58 #[.agg #[.int .i64 lo, .int .i64 hi], .int .i64 low, .int .i64 high] w fun e w' => e = .returned (.bool b) ∧ Below w.heap.size w w' := h ▸ rwithin_any lo hi low high w

theorem floor_tdiv {a b : Int} (hb : 1 ≤ b) : (a.tmod b < 0 → a.tdiv b - 1 = a / b) ∧ (¬ a.tmod b < 0 → a.tdiv b = a / b) := by
  have e := Int.tmod_add_mul_tdiv a b
  have h1 := Int.tmod_lt_of_pos a (show 0 < b by omega)
  have h2 := Int.lt_tmod_of_pos a (show 0 < b by omega)
  refine ⟨fun h => ?_, fun h => ?_⟩
  · have := ((Int.ediv_emod_unique (a := a) (b := b) (r := a.tmod b + b) (q := a.tdiv b - 1) (by omega)).2 ⟨by rw [Int.mul_sub, Int.mul_one]; omega, by omega, by omega⟩).1
    exact this.symm
  · have := ((Int.ediv_emod_unique (a := a) (b := b) (r := a.tmod b) (q := a.tdiv b) (by omega)).2 ⟨by omega, by omega, by omega⟩).1
    exact this.symm
theorem floor_range {a b N : Int} (hb : 1 ≤ b) (hN : 0 ≤ N) (h1 : -N ≤ a) (h2 : a ≤ N) : -N ≤ a / b ∧ a / b ≤ N := by
  refine ⟨?_, ?_⟩
  · refine (Int.le_ediv_iff_mul_le (by omega)).2 ?_
    have := Int.mul_le_mul_of_nonneg_left hb hN
    rw [Int.neg_mul]; omega
  · have h3 := Int.ediv_mul_le a (show b ≠ 0 by omega)
    by_cases h : a / b ≤ 0
    · omega
    · have := Int.mul_le_mul_of_nonneg_left hb (show 0 ≤ a / b by omega)
      omega
theorem upI_neg {a b : Int} (hb : 1 ≤ b) : -(-a / b) = upI a b := by
  unfold upI
  have e1 := Int.emod_add_mul_ediv (-a) b
  have m1 := Int.emod_nonneg (-a) (show b ≠ 0 by omega)
  have m2 := Int.emod_lt_of_pos (-a) (show 0 < b by omega)
  have := ((Int.ediv_emod_unique (a := a + b - 1) (b := b) (r := b - 1 - (-a) % b) (q := -(-a / b)) (by omega)).2 ⟨by rw [Int.mul_neg]; omega, by omega, by omega⟩).1
  exact this.symm
/-- a fraction that is not too great to be reckoned with -/
structure Fr.Fit (x : Fr) : Prop where
  d1 : 1 ≤ x.d
  d2 : x.d ≤ 100000000
  n1 : -1000000000000000 ≤ x.n
  n2 : x.n ≤ 1000000000000000
theorem Fr.Fit.rest {x : Fr} (h : x.Fit) : x.flr * x.d ≤ x.n ∧ x.n < x.flr * x.d + x.d ∧ -1000000000000000 ≤ x.flr ∧ x.flr ≤ 1000000000000000 := by
  have e := Int.emod_add_mul_ediv x.n x.d
  have m1 := Int.emod_nonneg x.n (show x.d ≠ 0 by have := h.d1; omega)
  have m2 := Int.emod_lt_of_pos x.n (show 0 < x.d by have := h.d1; omega)
  have r := floor_range h.d1 (N := 1000000000000000) (by omega) h.n1 h.n2
  unfold Fr.flr
  rw [Int.mul_comm]
  exact ⟨by omega, by omega, r.1, r.2⟩
theorem less_floor {x y : Fr} (hx : x.Fit) (hy : y.Fit) : (¬ x.flr = y.flr → ltF x y = decide (x.flr < y.flr)) ∧ (x.flr = y.flr → ltF x y = decide ((x.n - x.flr * x.d) * y.d < (y.n - y.flr * y.d) * x.d)) := by
  obtain ⟨a1, a2, _, _⟩ := hx.rest
  obtain ⟨b1, b2, _, _⟩ := hy.rest
  have dx := hx.d1
  have dy := hy.d1
  have far : ∀ u v : Fr, 1 ≤ u.d → 1 ≤ v.d → u.n < u.flr * u.d + u.d → v.flr * v.d ≤ v.n → u.flr < v.flr → u.n * v.d < v.n * u.d := fun u v du dv h1 h2 h3 => by
    have k1 : u.n < (u.flr + 1) * u.d := by rw [Int.add_mul]; omega
    have k2 := Int.mul_lt_mul_of_pos_right k1 (show 0 < v.d by omega)
    have k3 := Int.mul_le_mul_of_nonneg_right (show u.flr + 1 ≤ v.flr by omega) (show 0 ≤ u.d * v.d from Int.mul_nonneg (by omega) (by omega))
    have k4 := Int.mul_le_mul_of_nonneg_right h2 (show 0 ≤ u.d by omega)
    have e1 : (u.flr + 1) * u.d * v.d = (u.flr + 1) * (u.d * v.d) := Int.mul_assoc _ _ _
    have e2 : v.flr * (u.d * v.d) = v.flr * v.d * u.d := by grind
    omega
  refine ⟨fun h => ?_, fun h => ?_⟩
  · unfold ltF
    rcases Int.lt_or_gt_of_ne h with h' | h'
    · rw [decide_eq_true (far x y dx dy a2 b1 h'), decide_eq_true h']
    · have := far y x dy dx b2 a1 h'
      rw [decide_eq_false (by omega), decide_eq_false (by omega)]
  · unfold ltF
    have e : (x.n - x.flr * x.d) * y.d < (y.n - y.flr * y.d) * x.d ↔ x.n * y.d < y.n * x.d := by
      rw [← h, Int.sub_mul, Int.sub_mul, Int.mul_right_comm x.flr y.d x.d]
      omega
    rw [decide_eq_decide.2 e]

set_option maxHeartbeats 400000 in
theorem floor_any (a b : Int) (w : World) (ha : -1000000000000000 ≤ a) (ha2 : a ≤ 1000000000000000) (hb : 1 ≤ b) :
    Calls Try.prog 53 #[.agg #[.int .i64 a, .int .i64 b]] w fun e w' => e = .returned (.int .i64 (a / b)) ∧ Below w.heap.size w w' := by
  have h0 : ¬ b = 0 := by omega
  have hr := floor_range hb (N := 1000000000000000) (by omega) ha ha2
  have ht := floor_tdiv (a := a) hb
  by_cases h : a.tmod b < 0
  · have e := ht.1 h
    have q0 : -1000000000000000 ≤ a.tdiv b := by omega
    have q1 : a.tdiv b ≤ 1000000000000001 := by omega
    have E := Lib.hid e; clear e ht hr
    go_enter Try.func53, Try.ntmps53
    go_wp2
    go_ret
    exact ⟨by rw [← E.out]; rfl, (Below.refl _ _).alloc (Nat.le_refl _) _⟩
  · have e := ht.2 h
    have q0 : -1000000000000000 ≤ a.tdiv b := by omega
    have q1 : a.tdiv b ≤ 1000000000000001 := by omega
    have E := Lib.hid e; clear e ht hr
    go_enter Try.func53, Try.ntmps53
    go_wp2
    go_ret
    exact ⟨by rw [← E.out]; rfl, (Below.refl _ _).alloc (Nat.le_refl _) _⟩

set_option maxHeartbeats 400000 in
theorem ceil_any (a b : Int) (w : World) (ha : -1000000000000000 ≤ a) (ha2 : a ≤ 1000000000000000) (hb : 1 ≤ b) :
    Calls Try.prog 55 #[.agg #[.int .i64 a, .int .i64 b]] w fun e w' => e = .returned (.int .i64 (upI a b)) ∧ Below w.heap.size w w' := by
  have hr := floor_range hb (N := 1000000000000000) (by omega) (a := -a) (by omega) (by omega)
  have E := Lib.hid (upI_neg (a := a) hb)
  have F := Lib.hid (floor_any (-a) b (w.alloc (.cells #[.int .i64 a, .int .i64 b] 78)) (by omega) (by omega) hb)
  obtain ⟨q, hq⟩ : ∃ q, -a / b = q := ⟨_, rfl⟩
  rw [hq] at hr E F
  go_enter Try.func55, Try.ntmps55
  go_wp2_with fail
  refine F.out.mono ?_
  rintro e w1 ⟨rfl, hb1⟩
  go_wp2_with fail
  go_ret
  exact ⟨by rw [← E.out]; rfl, thru hb1 (below_alloc _ _)⟩

set_option maxRecDepth 100000 in
set_option maxHeartbeats 1000000 in
theorem less_any (x y : Fr) (w : World) (hx : x.Fit) (hy : y.Fit) :
    Calls Try.prog 80 #[.agg #[.int .i64 x.n, .int .i64 x.d], .agg #[.int .i64 y.n, .int .i64 y.d]] w fun e w' => e = .returned (.bool (ltF x y)) ∧ Below w.heap.size w w' := by
  obtain ⟨k1, k2⟩ := less_floor hx hy
  obtain ⟨a1, a2, a3, a4⟩ := hx.rest
  obtain ⟨b1, b2, b3, b4⟩ := hy.rest
  obtain ⟨dx1, dx2, nx1, nx2⟩ := hx
  obtain ⟨dy1, dy2, ny1, ny2⟩ := hy
  have F1 := Lib.hid (fun w => floor_any x.n x.d w nx1 nx2 dx1)
  have F2 := Lib.hid (fun w => floor_any y.n y.d w ny1 ny2 dy1)
  have m1 := Int.mul_nonneg (show 0 ≤ x.n - x.flr * x.d by omega) (show 0 ≤ y.d by omega)
  have m2 := Int.mul_nonneg (show 0 ≤ y.n - y.flr * y.d by omega) (show 0 ≤ x.d by omega)
  have m3 := Int.mul_le_mul (show x.n - x.flr * x.d ≤ 100000000 by omega) dy2 (by omega) (by omega)
  have m4 := Int.mul_le_mul (show y.n - y.flr * y.d ≤ 100000000 by omega) dx2 (by omega) (by omega)
  have e1 : x.n / x.d = x.flr := rfl
  have e2 : y.n / y.d = y.flr := rfl
  rw [e1] at F1
  rw [e2] at F2
  clear e1 e2
  generalize ltF x y = L at *
  generalize x.flr = m at *
  generalize y.flr = n at *
  obtain ⟨xn, xd⟩ := x
  obtain ⟨yn, yd⟩ := y
  dsimp only at *
  obtain ⟨W1, hW1⟩ : ∃ W1, (w.alloc (.cells #[.int .i64 xn, .int .i64 xd] 78)).alloc (.cells #[.int .i64 yn, .int .i64 yd] 78) = W1 := ⟨_, rfl⟩
  have hBc : Below w.heap.size w W1 := by rw [← hW1]; exact (below_alloc _ _).alloc (by simp) _
  have zc0 : W1.heap[w.heap.size]? = some (.cells #[.int .i64 xn, .int .i64 xd] 78 (0, 0)) := by rw [← hW1]; exact alloc_keep (alloc_at rfl)
  have zc1 : W1.heap[w.heap.size + 1]? = some (.cells #[.int .i64 yn, .int .i64 yd] 78 (0, 0)) := by rw [← hW1]; exact alloc_at (by simp)
  have c00 : W1.cell? ⟨w.heap.size, 0, none⟩ = some (.int .i64 xn) := cell_of_block zc0 0 (by simp)
  have c01 : W1.cell? ⟨w.heap.size, 1, none⟩ = some (.int .i64 xd) := cell_of_block zc0 1 (by simp)
  have c10 : W1.cell? ⟨w.heap.size + 1, 0, none⟩ = some (.int .i64 yn) := cell_of_block zc1 0 (by simp)
  have c11 : W1.cell? ⟨w.heap.size + 1, 1, none⟩ = some (.int .i64 yd) := cell_of_block zc1 1 (by simp)
  have lc0 := (Array.getElem?_eq_some_iff.1 zc0).1
  have lc1 := (Array.getElem?_eq_some_iff.1 zc1).1
  clear zc0 zc1
  have HBc := Lib.hid hBc; clear hBc
  have HWc := Lib.hid hW1; clear hW1
  by_cases h : m = n
  · have K := Lib.hid (k2 h)
    have he : (m == n) = true := by simpa using h
    subst h
    clear k1 k2
    go_enter Try.func80, Try.ntmps80
    go_upto_region 1 with (fail)
    rw [HWc.out]
    refine wp_region_gw (by kernel_rfl) (by kernel_rfl) ?_
    repeat (go_big_quiet_step (first | (go_at_call 53; first | with_reducible exact Calls.gw_of (F1.out _) | with_reducible exact Calls.gw_of (F2.out _))))
    refine wpQuiet_nil ?_
    rintro _ ⟨z, rfl⟩
    go_wp2_with fail
    go_ret
    exact ⟨by rw [K.out]; rfl, HBc.out.gw z⟩
  · have K := Lib.hid (k1 h)
    have he : (m == n) = false := by simpa using h
    clear k1 k2 m1 m2 m3 m4
    go_enter Try.func80, Try.ntmps80
    go_upto_region 1 with (fail)
    rw [HWc.out]
    refine wp_region_gw (by kernel_rfl) (by kernel_rfl) ?_
    repeat (go_big_quiet_step (first | (go_at_call 53; first | with_reducible exact Calls.gw_of (F1.out _) | with_reducible exact Calls.gw_of (F2.out _))))
    refine wpQuiet_nil ?_
    rintro _ ⟨z, rfl⟩
    go_wp2_with fail
    go_ret
    exact ⟨by rw [K.out]; rfl, HBc.out.gw z⟩

set_option maxHeartbeats 400000 in
theorem rfloor_any (a b : Int) (w : World) (ha : -1000000000000000 ≤ a) (ha2 : a ≤ 1000000000000000) (hb : 1 ≤ b) :
    Calls Try.prog 31 #[.agg #[.int .i64 a, .int .i64 b]] w fun e w' => e = .returned (.int .i64 (a / b)) ∧ Below w.heap.size w w' := by
  have h0 : ¬ b = 0 := by omega
  have hr := floor_range hb (N := 1000000000000000) (by omega) ha ha2
  have ht := floor_tdiv (a := a) hb
  by_cases h : a.tmod b < 0
  · have e := ht.1 h
    have q0 : -1000000000000000 ≤ a.tdiv b := by omega
    have q1 : a.tdiv b ≤ 1000000000000001 := by omega
    have E := Lib.hid e; clear e ht hr
    go_enter Try.func31, Try.ntmps31
    go_wp2
    go_ret
    exact ⟨by rw [← E.out]; rfl, (Below.refl _ _).alloc (Nat.le_refl _) _⟩
  · have e := ht.2 h
    have q0 : -1000000000000000 ≤ a.tdiv b := by omega
    have q1 : a.tdiv b ≤ 1000000000000001 := by omega
    have E := Lib.hid e; clear e ht hr
    go_enter Try.func31, Try.ntmps31
    go_wp2
    go_ret
    exact ⟨by rw [← E.out]; rfl, (Below.refl _ _).alloc (Nat.le_refl _) _⟩

set_option maxHeartbeats 400000 in
theorem rceil_any (a b : Int) (w : World) (ha : -1000000000000000 ≤ a) (ha2 : a ≤ 1000000000000000) (hb : 1 ≤ b) :
    Calls Try.prog 32 #[.agg #[.int .i64 a, .int .i64 b]] w fun e w' => e = .returned (.int .i64 (upI a b)) ∧ Below w.heap.size w w' := by
  have hr := floor_range hb (N := 1000000000000000) (by omega) (a := -a) (by omega) (by omega)
  have E := Lib.hid (upI_neg (a := a) hb)
  have F := Lib.hid (rfloor_any (-a) b (w.alloc (.cells #[.int .i64 a, .int .i64 b] 35)) (by omega) (by omega) hb)
  obtain ⟨q, hq⟩ : ∃ q, -a / b = q := ⟨_, rfl⟩
  rw [hq] at hr E F
  go_enter Try.func32, Try.ntmps32
  go_wp2_with fail
  refine F.out.mono ?_
  rintro e w1 ⟨rfl, hb1⟩
  go_wp2_with fail
  go_ret
  exact ⟨by rw [← E.out]; rfl, thru hb1 (below_alloc _ _)⟩

set_option maxRecDepth 100000 in
set_option maxHeartbeats 1000000 in
theorem rless_any (x y : Fr) (w : World) (hx : x.Fit) (hy : y.Fit) :
    Calls Try.prog 21 #[.agg #[.int .i64 x.n, .int .i64 x.d], .agg #[.int .i64 y.n, .int .i64 y.d]] w fun e w' => e = .returned (.bool (ltF x y)) ∧ Below w.heap.size w w' := by
  obtain ⟨k1, k2⟩ := less_floor hx hy
  obtain ⟨a1, a2, a3, a4⟩ := hx.rest
  obtain ⟨b1, b2, b3, b4⟩ := hy.rest
  obtain ⟨dx1, dx2, nx1, nx2⟩ := hx
  obtain ⟨dy1, dy2, ny1, ny2⟩ := hy
  have F1 := Lib.hid (fun w => rfloor_any x.n x.d w nx1 nx2 dx1)
  have F2 := Lib.hid (fun w => rfloor_any y.n y.d w ny1 ny2 dy1)
  have m1 := Int.mul_nonneg (show 0 ≤ x.n - x.flr * x.d by omega) (show 0 ≤ y.d by omega)
  have m2 := Int.mul_nonneg (show 0 ≤ y.n - y.flr * y.d by omega) (show 0 ≤ x.d by omega)
  have m3 := Int.mul_le_mul (show x.n - x.flr * x.d ≤ 100000000 by omega) dy2 (by omega) (by omega)
  have m4 := Int.mul_le_mul (show y.n - y.flr * y.d ≤ 100000000 by omega) dx2 (by omega) (by omega)
  have e1 : x.n / x.d = x.flr := rfl
  have e2 : y.n / y.d = y.flr := rfl
  rw [e1] at F1
  rw [e2] at F2
  clear e1 e2
  generalize ltF x y = L at *
  generalize x.flr = m at *
  generalize y.flr = n at *
  obtain ⟨xn, xd⟩ := x
  obtain ⟨yn, yd⟩ := y
  dsimp only at *
  obtain ⟨W1, hW1⟩ : ∃ W1, (w.alloc (.cells #[.int .i64 xn, .int .i64 xd] 35)).alloc (.cells #[.int .i64 yn, .int .i64 yd] 35) = W1 := ⟨_, rfl⟩
  have hBc : Below w.heap.size w W1 := by rw [← hW1]; exact (below_alloc _ _).alloc (by simp) _
  have zc0 : W1.heap[w.heap.size]? = some (.cells #[.int .i64 xn, .int .i64 xd] 35 (0, 0)) := by rw [← hW1]; exact alloc_keep (alloc_at rfl)
  have zc1 : W1.heap[w.heap.size + 1]? = some (.cells #[.int .i64 yn, .int .i64 yd] 35 (0, 0)) := by rw [← hW1]; exact alloc_at (by simp)
  have c00 : W1.cell? ⟨w.heap.size, 0, none⟩ = some (.int .i64 xn) := cell_of_block zc0 0 (by simp)
  have c01 : W1.cell? ⟨w.heap.size, 1, none⟩ = some (.int .i64 xd) := cell_of_block zc0 1 (by simp)
  have c10 : W1.cell? ⟨w.heap.size + 1, 0, none⟩ = some (.int .i64 yn) := cell_of_block zc1 0 (by simp)
  have c11 : W1.cell? ⟨w.heap.size + 1, 1, none⟩ = some (.int .i64 yd) := cell_of_block zc1 1 (by simp)
  have lc0 := (Array.getElem?_eq_some_iff.1 zc0).1
  have lc1 := (Array.getElem?_eq_some_iff.1 zc1).1
  clear zc0 zc1
  have HBc := Lib.hid hBc; clear hBc
  have HWc := Lib.hid hW1; clear hW1
  by_cases h : m = n
  · have K := Lib.hid (k2 h)
    have he : (m == n) = true := by simpa using h
    subst h
    clear k1 k2
    go_enter Try.func21, Try.ntmps21
    go_upto_region 1 with (fail)
    rw [HWc.out]
    refine wp_region_gw (by kernel_rfl) (by kernel_rfl) ?_
    repeat (go_big_quiet_step (first | (go_at_call 31; first | with_reducible exact Calls.gw_of (F1.out _) | with_reducible exact Calls.gw_of (F2.out _))))
    refine wpQuiet_nil ?_
    rintro _ ⟨z, rfl⟩
    go_wp2_with fail
    go_ret
    exact ⟨by rw [K.out]; rfl, HBc.out.gw z⟩
  · have K := Lib.hid (k1 h)
    have he : (m == n) = false := by simpa using h
    clear k1 k2 m1 m2 m3 m4
    go_enter Try.func21, Try.ntmps21
    go_upto_region 1 with (fail)
    rw [HWc.out]
    refine wp_region_gw (by kernel_rfl) (by kernel_rfl) ?_
    repeat (go_big_quiet_step (first | (go_at_call 31; first | with_reducible exact Calls.gw_of (F1.out _) | with_reducible exact Calls.gw_of (F2.out _))))
    refine wpQuiet_nil ?_
    rintro _ ⟨z, rfl⟩
    go_wp2_with fail
    go_ret
    exact ⟨by rw [K.out]; rfl, HBc.out.gw z⟩

end Go.Proofs.Ytohcopdfdmjhnaa.L1
