/- Contracts of the tests of numbers and spans, of fractions, of pure alcohol. Contracts of sort.Search over a predicate that rises, and of place. Contracts of all over numbers, over rows of numbers, over parts, with whatever test. Contracts of rises, of Check, of the reference's test of a table. No conditions beyond each theorem's own. -/
import Derived.Test.YtjgnafhbeekebaaGreatProg
import Derived.Test.YtjgnafhbeekebaaGreatLa
import Derived.Test.YtjgnafhbeekebaaGreatAl
import Derived.Lib.Hide
import Derived.Shelf.Abstract
set_option linter.unusedVariables false
set_option linter.unusedSimpArgs false
set_option linter.unusedSectionVars false
set_option linter.constructorNameAsVariable false
namespace Go.Proofs.YtjgnafhbeekebaaGreat.L1
open Go.RowKit
open Go.Proofs.YtjgnafhbeekebaaGreat

attribute [local go_sem] gw_cell gw_frozen gw_size

set_option maxHeartbeats 400000 in
theorem within_any (n lo hi : Int) (w : World) :
    Calls Tryz.prog 43 #[.int .i64 n, .int .i64 lo, .int .i64 hi] w fun e w' => e = .returned (.bool (inB n lo hi)) ∧ w = w' := by
  by_cases h1 : lo ≤ n
  · by_cases h2 : n ≤ hi
    · have hb : inB n lo hi = true := by simp [inB, h1, h2]
      rw [hb]; clear hb
      go_enter Tryz.func43, Tryz.ntmps43
      go_wp2
      go_ret
      exact ⟨rfl, rfl⟩
    · have hb : inB n lo hi = false := by simp [inB, h2]
      rw [hb]; clear hb
      go_enter Tryz.func43, Tryz.ntmps43
      go_wp2
      go_ret
      exact ⟨rfl, rfl⟩
  · have hb : inB n lo hi = false := by simp [inB, h1]
    rw [hb]; clear hb
    go_enter Tryz.func43, Tryz.ntmps43
    go_wp2
    go_ret
    exact ⟨rfl, rfl⟩
theorem within_b {b : Bool} (n lo hi : Int) (w : World) (h : inB n lo hi = b) :
    Calls Tryz.prog 43 #[.int .i64 n, .int .i64 lo, .int .i64 hi] w fun e w' => e = .returned (.bool b) ∧ w = w' := h ▸ within_any n lo hi w

set_option maxHeartbeats 400000 in
theorem rin_any (n lo hi : Int) (w : World) :
    Calls Tryz.prog 19 #[.int .i64 n, .int .i64 lo, .int .i64 hi] w fun e w' => e = .returned (.bool (inB n lo hi)) ∧ w = w' := by
  by_cases h1 : lo ≤ n
  · by_cases h2 : n ≤ hi
    · have hb : inB n lo hi = true := by simp [inB, h1, h2]
      rw [hb]; clear hb
      go_enter Tryz.func19, Tryz.ntmps19
      go_wp2
      go_ret
      exact ⟨rfl, rfl⟩
    · have hb : inB n lo hi = false := by simp [inB, h2]
      rw [hb]; clear hb
      go_enter Tryz.func19, Tryz.ntmps19
      go_wp2
      go_ret
      exact ⟨rfl, rfl⟩
  · have hb : inB n lo hi = false := by simp [inB, h1]
    rw [hb]; clear hb
    go_enter Tryz.func19, Tryz.ntmps19
    go_wp2
    go_ret
    exact ⟨rfl, rfl⟩
theorem rin_b {b : Bool} (n lo hi : Int) (w : World) (h : inB n lo hi = b) :
    Calls Tryz.prog 19 #[.int .i64 n, .int .i64 lo, .int .i64 hi] w fun e w' => e = .returned (.bool b) ∧ w = w' := h ▸ rin_any n lo hi w

set_option maxHeartbeats 400000 in
theorem isSpan_any (lo hi low high : Int) (w : World) :
    Calls Tryz.prog 32 #[.agg #[.int .i64 lo, .int .i64 hi], .int .i64 low, .int .i64 high] w fun e w' => e = .returned (.bool (spanB lo hi low high)) ∧ Below w.heap.size w w' := by
  by_cases h1 : low ≤ lo
  · by_cases h2 : lo ≤ hi
    · by_cases h3 : hi ≤ high
      · have hb : spanB lo hi low high = true := by simp [spanB, h1, h2, h3]
        rw [hb]; clear hb
        go_enter Tryz.func32, Tryz.ntmps32
        go_wp2
        go_ret
        exact ⟨rfl, (Below.refl _ _).alloc (Nat.le_refl _) _⟩
      · have hb : spanB lo hi low high = false := by simp [spanB, h3]
        rw [hb]; clear hb
        go_enter Tryz.func32, Tryz.ntmps32
        go_wp2
        go_ret
        exact ⟨rfl, (Below.refl _ _).alloc (Nat.le_refl _) _⟩
    · have hb : spanB lo hi low high = false := by simp [spanB, h2]
      rw [hb]; clear hb
      go_enter Tryz.func32, Tryz.ntmps32
      go_wp2
      go_ret
      exact ⟨rfl, (Below.refl _ _).alloc (Nat.le_refl _) _⟩
  · have hb : spanB lo hi low high = false := by simp [spanB, h1]
    rw [hb]; clear hb
    go_enter Tryz.func32, Tryz.ntmps32
    go_wp2
    go_ret
    exact ⟨rfl, (Below.refl _ _).alloc (Nat.le_refl _) _⟩
theorem isSpan_b {b : Bool} (lo hi low high : Int) (w : World) (h : spanB lo hi low high = b) :
    Calls Tryz.prog 32 #[.agg #[.int .i64 lo, .int .i64 hi], .int .i64 low, .int .i64 high] w fun e w' => e = .returned (.bool b) ∧ Below w.heap.size w w' := h ▸ isSpan_any lo hi low high w

set_option maxHeartbeats 400000 in
theorem rwithin_any (lo hi low high : Int) (w : World) :
    Calls Tryz.prog 21 #[.agg #[.int .i64 lo, .int .i64 hi], .int .i64 low, .int .i64 high] w fun e w' => e = .returned (.bool (spanB lo hi low high)) ∧ Below w.heap.size w w' := by
  by_cases h1 : low ≤ lo
  · by_cases h2 : lo ≤ hi
    · by_cases h3 : hi ≤ high
      · have hb : spanB lo hi low high = true := by simp [spanB, h1, h2, h3]
        rw [hb]; clear hb
        go_enter Tryz.func21, Tryz.ntmps21
        go_wp2
        go_ret
        exact ⟨rfl, (Below.refl _ _).alloc (Nat.le_refl _) _⟩
      · have hb : spanB lo hi low high = false := by simp [spanB, h3]
        rw [hb]; clear hb
        go_enter Tryz.func21, Tryz.ntmps21
        go_wp2
        go_ret
        exact ⟨rfl, (Below.refl _ _).alloc (Nat.le_refl _) _⟩
    · have hb : spanB lo hi low high = false := by simp [spanB, h2]
      rw [hb]; clear hb
      go_enter Tryz.func21, Tryz.ntmps21
      go_wp2
      go_ret
      exact ⟨rfl, (Below.refl _ _).alloc (Nat.le_refl _) _⟩
  · have hb : spanB lo hi low high = false := by simp [spanB, h1]
    rw [hb]; clear hb
    go_enter Tryz.func21, Tryz.ntmps21
    go_wp2
    go_ret
    exact ⟨rfl, (Below.refl _ _).alloc (Nat.le_refl _) _⟩
theorem rwithin_b {b : Bool} (lo hi low high : Int) (w : World) (h : spanB lo hi low high = b) :
    Calls Tryz.prog 21 #[.agg #[.int .i64 lo, .int .i64 hi], .int .i64 low, .int .i64 high] w fun e w' => e = .returned (.bool b) ∧ Below w.heap.size w w' := h ▸ rwithin_any lo hi low high w

theorem floor_tdiv {a b : Int} (hb : 1 ≤ b) : (a.tmod b < 0 → a.tdiv b - 1 = a / b) ∧ (¬ a.tmod b < 0 → a.tdiv b = a / b) := by
  have e := Int.tmod_add_mul_tdiv a b
  have h1 := Int.tmod_lt_of_pos a (show 0 < b by omega)
  have h2 := Int.lt_tmod_of_pos a (show 0 < b by omega)
  refine ⟨fun h => ?_, fun h => ?_⟩
  · have := ((Int.ediv_emod_unique (a := a) (b := b) (r := a.tmod b + b) (q := a.tdiv b - 1) (by omega)).2 ⟨by rw [Int.mul_sub, Int.mul_one]; omega, by omega, by omega⟩).1
    exact this.symm
  · have := ((Int.ediv_emod_unique (a := a) (b := b) (r := a.tmod b) (q := a.tdiv b) (by omega)).2 ⟨by omega, by omega, by omega⟩).1
    exact this.symm
theorem floor_range {a b N : Int} (hb : 1 ≤ b) (hN : 0 ≤ N) (h1 : -N ≤ a) (h2 : a ≤ N) : -N ≤ a / b ∧ a / b ≤ N := by
  refine ⟨?_, ?_⟩
  · refine (Int.le_ediv_iff_mul_le (by omega)).2 ?_
    have := Int.mul_le_mul_of_nonneg_left hb hN
    rw [Int.neg_mul]; omega
  · have h3 := Int.ediv_mul_le a (show b ≠ 0 by omega)
    by_cases h : a / b ≤ 0
    · omega
    · have := Int.mul_le_mul_of_nonneg_left hb (show 0 ≤ a / b by omega)
      omega
theorem upI_neg {a b : Int} (hb : 1 ≤ b) : -(-a / b) = upI a b := by
  unfold upI
  have e1 := Int.emod_add_mul_ediv (-a) b
  have m1 := Int.emod_nonneg (-a) (show b ≠ 0 by omega)
  have m2 := Int.emod_lt_of_pos (-a) (show 0 < b by omega)
  have := ((Int.ediv_emod_unique (a := a + b - 1) (b := b) (r := b - 1 - (-a) % b) (q := -(-a / b)) (by omega)).2 ⟨by rw [Int.mul_neg]; omega, by omega, by omega⟩).1
  exact this.symm
/-- a fraction that is not too great to be reckoned with -/
structure Fr.Fit (x : Fr) : Prop where
  d1 : 1 ≤ x.d
  d2 : x.d ≤ 100000000
  n1 : -1000000000000000 ≤ x.n
  n2 : x.n ≤ 1000000000000000
theorem Fr.Fit.rest {x : Fr} (h : x.Fit) : x.flr * x.d ≤ x.n ∧ x.n < x.flr * x.d + x.d ∧ -1000000000000000 ≤ x.flr ∧ x.flr ≤ 1000000000000000 := by
  have e := Int.emod_add_mul_ediv x.n x.d
  have m1 := Int.emod_nonneg x.n (show x.d ≠ 0 by have := h.d1; omega)
  have m2 := Int.emod_lt_of_pos x.n (show 0 < x.d by have := h.d1; omega)
  have r := floor_range h.d1 (N := 1000000000000000) (by omega) h.n1 h.n2
  unfold Fr.flr
  rw [Int.mul_comm]
  exact ⟨by omega, by omega, r.1, r.2⟩
theorem less_floor {x y : Fr} (hx : x.Fit) (hy : y.Fit) : (¬ x.flr = y.flr → ltF x y = decide (x.flr < y.flr)) ∧ (x.flr = y.flr → ltF x y = decide ((x.n - x.flr * x.d) * y.d < (y.n - y.flr * y.d) * x.d)) := by
  obtain ⟨a1, a2, _, _⟩ := hx.rest
  obtain ⟨b1, b2, _, _⟩ := hy.rest
  have dx := hx.d1
  have dy := hy.d1
  have far : ∀ u v : Fr, 1 ≤ u.d → 1 ≤ v.d → u.n < u.flr * u.d + u.d → v.flr * v.d ≤ v.n → u.flr < v.flr → u.n * v.d < v.n * u.d := fun u v du dv h1 h2 h3 => by
    have k1 : u.n < (u.flr + 1) * u.d := by rw [Int.add_mul]; omega
    have k2 := Int.mul_lt_mul_of_pos_right k1 (show 0 < v.d by omega)
    have k3 := Int.mul_le_mul_of_nonneg_right (show u.flr + 1 ≤ v.flr by omega) (show 0 ≤ u.d * v.d from Int.mul_nonneg (by omega) (by omega))
    have k4 := Int.mul_le_mul_of_nonneg_right h2 (show 0 ≤ u.d by omega)
    have e1 : (u.flr + 1) * u.d * v.d = (u.flr + 1) * (u.d * v.d) := Int.mul_assoc _ _ _
    have e2 : v.flr * (u.d * v.d) = v.flr * v.d * u.d := by grind
    omega
  refine ⟨fun h => ?_, fun h => ?_⟩
  · unfold ltF
    rcases Int.lt_or_gt_of_ne h with h' | h'
    · rw [decide_eq_true (far x y dx dy a2 b1 h'), decide_eq_true h']
    · have := far y x dy dx b2 a1 h'
      rw [decide_eq_false (by omega), decide_eq_false (by omega)]
  · unfold ltF
    have e : (x.n - x.flr * x.d) * y.d < (y.n - y.flr * y.d) * x.d ↔ x.n * y.d < y.n * x.d := by
      rw [← h, Int.sub_mul, Int.sub_mul, Int.mul_right_comm x.flr y.d x.d]
      omega
    rw [decide_eq_decide.2 e]

set_option maxHeartbeats 400000 in
theorem floor_any (a b : Int) (w : World) (ha : -1000000000000000 ≤ a) (ha2 : a ≤ 1000000000000000) (hb : 1 ≤ b) :
    Calls Tryz.prog 55 #[.agg #[.int .i64 a, .int .i64 b]] w fun e w' => e = .returned (.int .i64 (a / b)) ∧ Below w.heap.size w w' := by
  have h0 : ¬ b = 0 := by omega
  have hr := floor_range hb (N := 1000000000000000) (by omega) ha ha2
  have ht := floor_tdiv (a := a) hb
  by_cases h : a.tmod b < 0
  · have e := ht.1 h
    have q0 : -1000000000000000 ≤ a.tdiv b := by omega
    have q1 : a.tdiv b ≤ 1000000000000001 := by omega
    have E := Lib.hid e; clear e ht hr
    go_enter Tryz.func55, Tryz.ntmps55
    go_wp2
    go_ret
    exact ⟨by rw [← E.out]; rfl, (Below.refl _ _).alloc (Nat.le_refl _) _⟩
  · have e := ht.2 h
    have q0 : -1000000000000000 ≤ a.tdiv b := by omega
    have q1 : a.tdiv b ≤ 1000000000000001 := by omega
    have E := Lib.hid e; clear e ht hr
    go_enter Tryz.func55, Tryz.ntmps55
    go_wp2
    go_ret
    exact ⟨by rw [← E.out]; rfl, (Below.refl _ _).alloc (Nat.le_refl _) _⟩

set_option maxHeartbeats 400000 in
theorem ceil_any (a b : Int) (w : World) (ha : -1000000000000000 ≤ a) (ha2 : a ≤ 1000000000000000) (hb : 1 ≤ b) :
    Calls Tryz.prog 57 #[.agg #[.int .i64 a, .int .i64 b]] w fun e w' => e = .returned (.int .i64 (upI a b)) ∧ Below w.heap.size w w' := by
  have hr := floor_range hb (N := 1000000000000000) (by omega) (a := -a) (by omega) (by omega)
  have E := Lib.hid (upI_neg (a := a) hb)
  have F := Lib.hid (floor_any (-a) b (w.alloc (.cells #[.int .i64 a, .int .i64 b] 95)) (by omega) (by omega) hb)
  obtain ⟨q, hq⟩ : ∃ q, -a / b = q := ⟨_, rfl⟩
  rw [hq] at hr E F
  go_enter Tryz.func57, Tryz.ntmps57
  go_wp2_with fail
  refine F.out.mono ?_
  rintro e w1 ⟨rfl, hb1⟩
  go_wp2_with fail
  go_ret
  exact ⟨by rw [← E.out]; rfl, thru hb1 (below_alloc _ _)⟩

set_option maxRecDepth 100000 in
set_option maxHeartbeats 1000000 in
theorem less_any (x y : Fr) (w : World) (hx : x.Fit) (hy : y.Fit) :
    Calls Tryz.prog 72 #[.agg #[.int .i64 x.n, .int .i64 x.d], .agg #[.int .i64 y.n, .int .i64 y.d]] w fun e w' => e = .returned (.bool (ltF x y)) ∧ Below w.heap.size w w' := by
  obtain ⟨k1, k2⟩ := less_floor hx hy
  obtain ⟨a1, a2, a3, a4⟩ := hx.rest
  obtain ⟨b1, b2, b3, b4⟩ := hy.rest
  obtain ⟨dx1, dx2, nx1, nx2⟩ := hx
  obtain ⟨dy1, dy2, ny1, ny2⟩ := hy
  have F1 := Lib.hid (fun w => floor_any x.n x.d w nx1 nx2 dx1)
  have F2 := Lib.hid (fun w => floor_any y.n y.d w ny1 ny2 dy1)
  have m1 := Int.mul_nonneg (show 0 ≤ x.n - x.flr * x.d by omega) (show 0 ≤ y.d by omega)
  have m2 := Int.mul_nonneg (show 0 ≤ y.n - y.flr * y.d by omega) (show 0 ≤ x.d by omega)
  have m3 := Int.mul_le_mul (show x.n - x.flr * x.d ≤ 100000000 by omega) dy2 (by omega) (by omega)
  have m4 := Int.mul_le_mul (show y.n - y.flr * y.d ≤ 100000000 by omega) dx2 (by omega) (by omega)
  have e1 : x.n / x.d = x.flr := rfl
  have e2 : y.n / y.d = y.flr := rfl
  rw [e1] at F1
  rw [e2] at F2
  clear e1 e2
  generalize ltF x y = L at *
  generalize x.flr = m at *
  generalize y.flr = n at *
  obtain ⟨xn, xd⟩ := x
  obtain ⟨yn, yd⟩ := y
  dsimp only at *
  obtain ⟨W1, hW1⟩ : ∃ W1, (w.alloc (.cells #[.int .i64 xn, .int .i64 xd] 95)).alloc (.cells #[.int .i64 yn, .int .i64 yd] 95) = W1 := ⟨_, rfl⟩
  have hBc : Below w.heap.size w W1 := by rw [← hW1]; exact (below_alloc _ _).alloc (by simp) _
  have zc0 : W1.heap[w.heap.size]? = some (.cells #[.int .i64 xn, .int .i64 xd] 95 (0, 0)) := by rw [← hW1]; exact alloc_keep (alloc_at rfl)
  have zc1 : W1.heap[w.heap.size + 1]? = some (.cells #[.int .i64 yn, .int .i64 yd] 95 (0, 0)) := by rw [← hW1]; exact alloc_at (by simp)
  have c00 : W1.cell? ⟨w.heap.size, 0, none⟩ = some (.int .i64 xn) := cell_of_block zc0 0 (by simp)
  have c01 : W1.cell? ⟨w.heap.size, 1, none⟩ = some (.int .i64 xd) := cell_of_block zc0 1 (by simp)
  have c10 : W1.cell? ⟨w.heap.size + 1, 0, none⟩ = some (.int .i64 yn) := cell_of_block zc1 0 (by simp)
  have c11 : W1.cell? ⟨w.heap.size + 1, 1, none⟩ = some (.int .i64 yd) := cell_of_block zc1 1 (by simp)
  have lc0 := (Array.getElem?_eq_some_iff.1 zc0).1
  have lc1 := (Array.getElem?_eq_some_iff.1 zc1).1
  clear zc0 zc1
  have HBc := Lib.hid hBc; clear hBc
  have HWc := Lib.hid hW1; clear hW1
  by_cases h : m = n
  · have K := Lib.hid (k2 h)
    have he : (m == n) = true := by simpa using h
    subst h
    clear k1 k2
    go_enter Tryz.func72, Tryz.ntmps72
    go_upto_region 1 with (fail)
    rw [HWc.out]
    refine wp_region_gw (by kernel_rfl) (by kernel_rfl) ?_
    repeat (go_big_quiet_step (first | (go_at_call 55; first | with_reducible exact Calls.gw_of (F1.out _) | with_reducible exact Calls.gw_of (F2.out _))))
    refine wpQuiet_nil ?_
    rintro _ ⟨z, rfl⟩
    go_wp2_with fail
    go_ret
    exact ⟨by rw [K.out]; rfl, HBc.out.gw z⟩
  · have K := Lib.hid (k1 h)
    have he : (m == n) = false := by simpa using h
    clear k1 k2 m1 m2 m3 m4
    go_enter Tryz.func72, Tryz.ntmps72
    go_upto_region 1 with (fail)
    rw [HWc.out]
    refine wp_region_gw (by kernel_rfl) (by kernel_rfl) ?_
    repeat (go_big_quiet_step (first | (go_at_call 55; first | with_reducible exact Calls.gw_of (F1.out _) | with_reducible exact Calls.gw_of (F2.out _))))
    refine wpQuiet_nil ?_
    rintro _ ⟨z, rfl⟩
    go_wp2_with fail
    go_ret
    exact ⟨by rw [K.out]; rfl, HBc.out.gw z⟩

set_option maxHeartbeats 400000 in
theorem rfloor_any (a b : Int) (w : World) (ha : -1000000000000000 ≤ a) (ha2 : a ≤ 1000000000000000) (hb : 1 ≤ b) :
    Calls Tryz.prog 13 #[.agg #[.int .i64 a, .int .i64 b]] w fun e w' => e = .returned (.int .i64 (a / b)) ∧ Below w.heap.size w w' := by
  have h0 : ¬ b = 0 := by omega
  have hr := floor_range hb (N := 1000000000000000) (by omega) ha ha2
  have ht := floor_tdiv (a := a) hb
  by_cases h : a.tmod b < 0
  · have e := ht.1 h
    have q0 : -1000000000000000 ≤ a.tdiv b := by omega
    have q1 : a.tdiv b ≤ 1000000000000001 := by omega
    have E := Lib.hid e; clear e ht hr
    go_enter Tryz.func13, Tryz.ntmps13
    go_wp2
    go_ret
    exact ⟨by rw [← E.out]; rfl, (Below.refl _ _).alloc (Nat.le_refl _) _⟩
  · have e := ht.2 h
    have q0 : -1000000000000000 ≤ a.tdiv b := by omega
    have q1 : a.tdiv b ≤ 1000000000000001 := by omega
    have E := Lib.hid e; clear e ht hr
    go_enter Tryz.func13, Tryz.ntmps13
    go_wp2
    go_ret
    exact ⟨by rw [← E.out]; rfl, (Below.refl _ _).alloc (Nat.le_refl _) _⟩

set_option maxHeartbeats 400000 in
theorem rceil_any (a b : Int) (w : World) (ha : -1000000000000000 ≤ a) (ha2 : a ≤ 1000000000000000) (hb : 1 ≤ b) :
    Calls Tryz.prog 14 #[.agg #[.int .i64 a, .int .i64 b]] w fun e w' => e = .returned (.int .i64 (upI a b)) ∧ Below w.heap.size w w' := by
  have hr := floor_range hb (N := 1000000000000000) (by omega) (a := -a) (by omega) (by omega)
  have E := Lib.hid (upI_neg (a := a) hb)
  have F := Lib.hid (rfloor_any (-a) b (w.alloc (.cells #[.int .i64 a, .int .i64 b] 49)) (by omega) (by omega) hb)
  obtain ⟨q, hq⟩ : ∃ q, -a / b = q := ⟨_, rfl⟩
  rw [hq] at hr E F
  go_enter Tryz.func14, Tryz.ntmps14
  go_wp2_with fail
  refine F.out.mono ?_
  rintro e w1 ⟨rfl, hb1⟩
  go_wp2_with fail
  go_ret
  exact ⟨by rw [← E.out]; rfl, thru hb1 (below_alloc _ _)⟩

set_option maxRecDepth 100000 in
set_option maxHeartbeats 1000000 in
theorem rless_any (x y : Fr) (w : World) (hx : x.Fit) (hy : y.Fit) :
    Calls Tryz.prog 30 #[.agg #[.int .i64 x.n, .int .i64 x.d], .agg #[.int .i64 y.n, .int .i64 y.d]] w fun e w' => e = .returned (.bool (ltF x y)) ∧ Below w.heap.size w w' := by
  obtain ⟨k1, k2⟩ := less_floor hx hy
  obtain ⟨a1, a2, a3, a4⟩ := hx.rest
  obtain ⟨b1, b2, b3, b4⟩ := hy.rest
  obtain ⟨dx1, dx2, nx1, nx2⟩ := hx
  obtain ⟨dy1, dy2, ny1, ny2⟩ := hy
  have F1 := Lib.hid (fun w => rfloor_any x.n x.d w nx1 nx2 dx1)
  have F2 := Lib.hid (fun w => rfloor_any y.n y.d w ny1 ny2 dy1)
  have m1 := Int.mul_nonneg (show 0 ≤ x.n - x.flr * x.d by omega) (show 0 ≤ y.d by omega)
  have m2 := Int.mul_nonneg (show 0 ≤ y.n - y.flr * y.d by omega) (show 0 ≤ x.d by omega)
  have m3 := Int.mul_le_mul (show x.n - x.flr * x.d ≤ 100000000 by omega) dy2 (by omega) (by omega)
  have m4 := Int.mul_le_mul (show y.n - y.flr * y.d ≤ 100000000 by omega) dx2 (by omega) (by omega)
  have e1 : x.n / x.d = x.flr := rfl
  have e2 : y.n / y.d = y.flr := rfl
  rw [e1] at F1
  rw [e2] at F2
  clear e1 e2
  generalize ltF x y = L at *
  generalize x.flr = m at *
  generalize y.flr = n at *
  obtain ⟨xn, xd⟩ := x
  obtain ⟨yn, yd⟩ := y
  dsimp only at *
  obtain ⟨W1, hW1⟩ : ∃ W1, (w.alloc (.cells #[.int .i64 xn, .int .i64 xd] 49)).alloc (.cells #[.int .i64 yn, .int .i64 yd] 49) = W1 := ⟨_, rfl⟩
  have hBc : Below w.heap.size w W1 := by rw [← hW1]; exact (below_alloc _ _).alloc (by simp) _
  have zc0 : W1.heap[w.heap.size]? = some (.cells #[.int .i64 xn, .int .i64 xd] 49 (0, 0)) := by rw [← hW1]; exact alloc_keep (alloc_at rfl)
  have zc1 : W1.heap[w.heap.size + 1]? = some (.cells #[.int .i64 yn, .int .i64 yd] 49 (0, 0)) := by rw [← hW1]; exact alloc_at (by simp)
  have c00 : W1.cell? ⟨w.heap.size, 0, none⟩ = some (.int .i64 xn) := cell_of_block zc0 0 (by simp)
  have c01 : W1.cell? ⟨w.heap.size, 1, none⟩ = some (.int .i64 xd) := cell_of_block zc0 1 (by simp)
  have c10 : W1.cell? ⟨w.heap.size + 1, 0, none⟩ = some (.int .i64 yn) := cell_of_block zc1 0 (by simp)
  have c11 : W1.cell? ⟨w.heap.size + 1, 1, none⟩ = some (.int .i64 yd) := cell_of_block zc1 1 (by simp)
  have lc0 := (Array.getElem?_eq_some_iff.1 zc0).1
  have lc1 := (Array.getElem?_eq_some_iff.1 zc1).1
  clear zc0 zc1
  have HBc := Lib.hid hBc; clear hBc
  have HWc := Lib.hid hW1; clear hW1
  by_cases h : m = n
  · have K := Lib.hid (k2 h)
    have he : (m == n) = true := by simpa using h
    subst h
    clear k1 k2
    go_enter Tryz.func30, Tryz.ntmps30
    go_upto_region 1 with (fail)
    rw [HWc.out]
    refine wp_region_gw (by kernel_rfl) (by kernel_rfl) ?_
    repeat (go_big_quiet_step (first | (go_at_call 13; first | with_reducible exact Calls.gw_of (F1.out _) | with_reducible exact Calls.gw_of (F2.out _))))
    refine wpQuiet_nil ?_
    rintro _ ⟨z, rfl⟩
    go_wp2_with fail
    go_ret
    exact ⟨by rw [K.out]; rfl, HBc.out.gw z⟩
  · have K := Lib.hid (k1 h)
    have he : (m == n) = false := by simpa using h
    clear k1 k2 m1 m2 m3 m4
    go_enter Tryz.func30, Tryz.ntmps30
    go_upto_region 1 with (fail)
    rw [HWc.out]
    refine wp_region_gw (by kernel_rfl) (by kernel_rfl) ?_
    repeat (go_big_quiet_step (first | (go_at_call 13; first | with_reducible exact Calls.gw_of (F1.out _) | with_reducible exact Calls.gw_of (F2.out _))))
    refine wpQuiet_nil ?_
    rintro _ ⟨z, rfl⟩
    go_wp2_with fail
    go_ret
    exact ⟨by rw [K.out]; rfl, HBc.out.gw z⟩

end Go.Proofs.YtjgnafhbeekebaaGreat.L1

namespace Go.Proofs.YtjgnafhbeekebaaGreat.L1
open Go.RowKit
open Go.Proofs.YtjgnafhbeekebaaGreat

attribute [local go_sem] gw_cell gw_frozen gw_size

set_option maxRecDepth 100000 in
set_option maxHeartbeats 1000000 in
theorem search_any (g : Nat) (lb : Array Value) (eg : ∀ args w, (callFunc g args).run Tryz.prog w = .ok (.enter g args) w) (p : Nat → Bool) (n : Nat) (hn : n ≤ 1000000) (mono : ∀ i j, i ≤ j → j < n → p i = true → p j = true) (w : World)
    (V : ∀ (W : World) (v : Nat), Below w.heap.size w W → v < n → Calls Tryz.prog g (#[.int .i64 v] ++ lb) W fun e w' => e = .returned (.bool (p v)) ∧ Below W.heap.size W w') :
    Calls Tryz.prog 53 #[.int .i64 n, .func (.func g) #[] lb] w fun e w' => e = .returned (.int .i64 (okN (fun i => !p i) n)) ∧ Below w.heap.size w w' := by
  have HV := Lib.hid V; clear V
  have HM := Lib.hid mono; clear mono
  go_enter Tryz.func53, Tryz.ntmps53
  go_wp2
  go_loopw [5, 6] (fun s t wr => ∃ i j : Nat, i ≤ j ∧ j ≤ n ∧ s = .int .i64 i ∧ t = .int .i64 j ∧ Hid (Below w.heap.size w wr) ∧ Hid (∀ t, t < i → (!p t) = true) ∧ Hid (j < n → (!p j) = false)) (fun s t _ => (intOf t - intOf s).toNat)
  case atStart => exact ⟨0, n, Nat.zero_le _, Nat.le_refl _, rfl, rfl, Lib.hid (Below.refl _ _), Lib.hid (fun _ h => by omega), Lib.hid (fun h => by omega)⟩
  case round =>
    obtain ⟨i, j, hij, hjn, rfl, rfl, HB, K1, K2⟩ := hrel
    by_cases hlt : i < j
    · have VM := HV.out wr ((i + j) / 2) HB.out (by omega)
      cases hx : p ((i + j) / 2) with
      | false =>
        rw [hx] at VM
        have HX := Lib.hid hx; clear hx
        go_wp2_with (go_at_fn g; refine VM.mono ?_; rintro e w' ⟨rfl, hb⟩)
        go_roundw
        case rel =>
          refine ⟨(i + j) / 2 + 1, j, by omega, by omega, by go_num, rfl, Lib.hid (thru hb HB.out), Lib.hid (fun t ht => ?_), K2⟩
          cases hy : p t with
          | false => rfl
          | true =>
            have := HM.out t ((i + j) / 2) (by omega) (by omega) hy
            rw [HX.out] at this
            cases this
        case measure => simp [intOf]; omega
      | true =>
        rw [hx] at VM
        have HX := Lib.hid hx; clear hx
        go_wp2_with (go_at_fn g; refine VM.mono ?_; rintro e w' ⟨rfl, hb⟩)
        go_roundw
        case rel => exact ⟨i, (i + j) / 2, by omega, by omega, rfl, by go_num, Lib.hid (thru hb HB.out), K1, Lib.hid (fun _ => by rw [HX.out]; rfl)⟩
        case measure => simp [intOf]; omega
    · obtain rfl : i = j := by omega
      have HI := Lib.hid (okN_unique (p := fun i => !p i) hjn K1.out K2.out)
      go_wp2
      go_ret
      exact ⟨by rw [← HI.out]; rfl, HB.out⟩

theorem okN_place (L : Nat → Int) (x : Int) (m : Nat) : okN (fun i => !decide (x < L (i + 1))) m = lb (fun i => L (i + 1)) (x + 1) m := by
  refine (okN_unique (lb_le _ _ _) (fun t ht => ?_) (fun h => ?_)).symm
  · have := lb_lt _ _ _ t ht
    simp only [Bool.not_eq_true', decide_eq_false_iff_not]; omega
  · have := lb_stop _ _ _ h
    simp only [Bool.not_eq_false', decide_eq_true_eq]; omega

set_option maxHeartbeats 1000000 in
theorem place1_any (bl bx b off n c v : Nat) (L : Nat → Int) (x : Int) (w : World) (h1 : w.cell? ⟨bl, 0, none⟩ = some (.slice (some ⟨b, off, none⟩) n c)) (h2 : w.cell? ⟨bx, 0, none⟩ = some (.int .i64 x))
    (hc : ∀ i, i < n → w.cell? ⟨b, off + i, none⟩ = some (.int .i64 (L i))) (hv : v + 1 < n) (hn : n ≤ 1000000) :
    Calls Tryz.prog 97 #[.int .i64 v, .pointer (some ⟨bl, 0, none⟩), .pointer (some ⟨bx, 0, none⟩)] w fun e w' => e = .returned (.bool (decide (x < L (v + 1)))) ∧ Below w.heap.size w w' := by
  have lbl := World.block_lt_of_cell? w _ h1
  have lbx := World.block_lt_of_cell? w _ h2
  have c1 := hc (v + 1) hv
  have lb1 := World.block_lt_of_cell? w _ c1
  dsimp only at lbl lbx lb1
  have hi1 : ((v : Int) + 1).toNat = v + 1 := by omega
  clear hc
  generalize L (v + 1) = y at *
  go_enter Tryz.func97, Tryz.ntmps97
  go_upto_region 1 with (fail)
  refine wp_region_gw (by kernel_rfl) (by kernel_rfl) ?_
  repeat (go_big_quiet_step (fail))
  refine wpQuiet_nil ?_
  rintro _ ⟨z, rfl⟩
  go_wp2_with fail
  go_ret
  exact ⟨rfl, below_gw w z⟩

set_option maxRecDepth 100000 in
set_option maxHeartbeats 1000000 in
theorem place_any (b off n c : Nat) (L : Nat → Int) (x : Int) (w : World) (hb : b < w.heap.size) (hc : ∀ i, i < n → w.cell? ⟨b, off + i, none⟩ = some (.int .i64 (L i))) (h2 : 2 ≤ n) (hn : n ≤ 1000000) (hr : Rises L n) :
    Calls Tryz.prog 86 #[.slice (some ⟨b, off, none⟩) n c, .int .i64 x] w fun e w' => e = .returned (.int .i64 (plV L n x)) ∧ Below w.heap.size w w' := by
  obtain ⟨W1, hW1⟩ : ∃ W1, (w.alloc (.cells #[.slice (some ⟨b, off, none⟩) n c] 22)).alloc (.cells #[.int .i64 x] 3) = W1 := ⟨_, rfl⟩
  have hBc : Below w.heap.size w W1 := by rw [← hW1]; exact (below_alloc _ _).alloc (by simp) _
  have zc0 : W1.heap[w.heap.size]? = some (.cells #[.slice (some ⟨b, off, none⟩) n c] 22 (0, 0)) := by rw [← hW1]; exact alloc_keep (alloc_at rfl)
  have zc1 : W1.heap[w.heap.size + 1]? = some (.cells #[.int .i64 x] 3 (0, 0)) := by rw [← hW1]; exact alloc_at (by simp)
  have c00 : W1.cell? ⟨w.heap.size, 0, none⟩ = some (.slice (some ⟨b, off, none⟩) n c) := cell_of_block zc0 0 (by simp)
  have c10 : W1.cell? ⟨w.heap.size + 1, 0, none⟩ = some (.int .i64 x) := cell_of_block zc1 0 (by simp)
  have lc0 := (Array.getElem?_eq_some_iff.1 zc0).1
  have lc1 := (Array.getElem?_eq_some_iff.1 zc1).1
  clear zc0 zc1
  have HBc := Lib.hid hBc; clear hBc
  have HWc := Lib.hid hW1; clear hW1
  have hmf : ∀ (fn : Fn) (first cap : Array Value) (w : World), (Instr.makeFunc fn first cap).run Tryz.prog w = .ok (.func fn first cap) w := fun _ _ _ _ => rfl
  have S := search_any 97 #[.pointer (some ⟨w.heap.size, 0, none⟩), .pointer (some ⟨w.heap.size + 1, 0, none⟩)] (enters_of Tryz.func97 (by kernel_rfl) rfl) (fun i => decide (x < L (i + 1))) (n - 2) (by omega)
    (fun i j hij hj h => by
      have := hr.le (i + 1) (j + 1) (by omega) (by omega)
      simp only [decide_eq_true_eq] at h ⊢
      omega) W1
    (fun W v hbw hv => place1_any w.heap.size (w.heap.size + 1) b off n c v L x W (below_cell hbw c00) (below_cell hbw c10) (fun i hi => below_cell hbw (below_cell HBc.out (hc i hi))) (by omega) hn)
  rw [okN_place] at S
  have e : ((n - 2 : Nat) : Int) = (n : Int) - 2 := by omega
  rw [e] at S
  have HS := Lib.hid S
  have HL := Lib.hid (show plV L n x = lb (fun i => L (i + 1)) (x + 1) (n - 2) from rfl)
  rw [HL.out]
  generalize lb (fun i => L (i + 1)) (x + 1) (n - 2) = q at *
  clear S HL hc hr e
  go_enter Tryz.func86, Tryz.ntmps86
  go_upto_region 1 with (fail)
  rw [HWc.out]
  go_wp2_with (go_at_call 53; refine HS.out.mono ?_; rintro e w' ⟨rfl, hb2⟩)
  go_ret
  exact ⟨rfl, thru hb2 HBc.out⟩

set_option maxRecDepth 100000 in
set_option maxHeartbeats 1000000 in
theorem rplace_any (b off n c : Nat) (L : Nat → Int) (x : Int) (w : World) (hc : ∀ i, i < n → w.cell? ⟨b, off + i, none⟩ = some (.int .i64 (L i))) (h2 : 2 ≤ n) (hn : n ≤ 1000000) :
    Calls Tryz.prog 28 #[.slice (some ⟨b, off, none⟩) n c, .int .i64 x] w fun e w' => e = .returned (.int .i64 (plV L n x)) ∧ w = w' := by
  have HC := Lib.hid hc; clear hc
  go_enter Tryz.func28, Tryz.ntmps28
  go_wp2
  go_loop [5] (fun s => ∃ i : Nat, i ≤ n - 2 ∧ s = .int .i64 i ∧ Hid (∀ t, t < i → L (t + 1) < x + 1)) (fun s => n - (intOf s).toNat)
  case atStart => exact ⟨0, Nat.zero_le _, rfl, Lib.hid (fun _ h => by omega)⟩
  case round =>
    obtain ⟨i, hi, rfl, K⟩ := hrel
    by_cases hlt : i + 2 < n
    · have c1 := HC.out (i + 1) (by omega)
      have hi1 : ((i : Int) + 1).toNat = i + 1 := by omega
      obtain ⟨y, hy⟩ : ∃ y, L (i + 1) = y := ⟨_, rfl⟩
      rw [hy] at c1
      have HY := Lib.hid hy; clear hy
      by_cases hle : y ≤ x
      · go_wp2
        go_round
        case rel => exact ⟨i + 1, by omega, by go_num, Lib.hid (all_succ K.out (by rw [HY.out]; omega))⟩
        case measure => simp [intOf]; omega
      · have HP := Lib.hid (show plV L n x = i from (lb_unique (by omega) K.out (fun _ => by rw [HY.out]; omega)).symm)
        go_wp2
        go_ret
        exact ⟨by rw [HP.out]; rfl, rfl⟩
    · have HP := Lib.hid (show plV L n x = i from (lb_unique (by omega) K.out (fun h => by omega)).symm)
      go_wp2
      go_ret
      exact ⟨by rw [HP.out]; rfl, rfl⟩
end Go.Proofs.YtjgnafhbeekebaaGreat.L1

namespace Go.Proofs.YtjgnafhbeekebaaGreat.L1
open Go.RowKit
open Go.Proofs.YtjgnafhbeekebaaGreat

attribute [local go_sem] gw_cell gw_frozen gw_size

def allB (n : Nat) (p : Nat → Bool) : Bool := (List.range n).all p
theorem allB_t {n : Nat} {p : Nat → Bool} : allB n p = true ↔ ∀ i, i < n → p i = true := by simp [allB]
theorem allB_f {n j : Nat} {p : Nat → Bool} (hj : j < n) (h : p j = false) : allB n p = false := by
  cases e : allB n p with
  | false => rfl
  | true => rw [allB_t.1 e j hj] at h; cases h
/-- an ending of IndexFunc: p: what is not looked for -/
def IxEnd (p : Nat → Bool) (n : Nat) (e : Ending) : Prop := (allB n p = true ∧ e = .returned (.int .i64 (-1))) ∨ ∃ j : Nat, j < n ∧ allB n p = false ∧ e = .returned (.int .i64 j)

/-- a list of rows of numbers -/
structure Rows where
  a : Option Addr
  n : Nat
  c : Nat
  rA : Nat → Option Addr
  rN : Nat → Nat
  rC : Nat → Nat
  M : Nat → Nat → Int
def Rows.val (r : Rows) : Value := .slice r.a r.n r.c
def Rows.row (r : Rows) (i : Nat) : Value := .slice (r.rA i) (r.rN i) (r.rC i)
/-- where its rows' slices are -/
def CellsAt (w : World) (a : Option Addr) (n : Nat) (V : Nat → Value) : Prop := n = 0 ∨ ∃ b off, a = some ⟨b, off, none⟩ ∧ b < w.heap.size ∧ ∀ i, i < n → w.cell? ⟨b, off + i, none⟩ = some (V i)
theorem CellsAt.below {w w' : World} {a : Option Addr} {n : Nat} {V : Nat → Value} (h : CellsAt w a n V) (hb : Below w.heap.size w w') : CellsAt w' a n V := by
  rcases h with h | ⟨b, off, rfl, hlt, hc⟩
  · exact .inl h
  · exact .inr ⟨b, off, rfl, Nat.lt_of_lt_of_le hlt hb.size, fun i hi => (hb.cell (p := ⟨b, off + i, none⟩) hlt).trans (hc i hi)⟩
theorem IntsAt.cells {w : World} {a : Option Addr} {n : Nat} {L : Nat → Int} (h : IntsAt w a n L) : CellsAt w a n (fun i => .int .i64 (L i)) := h
structure Rows.In (r : Rows) (w : World) : Prop where
  cells : CellsAt w r.a r.n r.row
  rows : ∀ i, i < r.n → IntsAt w (r.rA i) (r.rN i) (r.M i)
theorem Rows.In.below {r : Rows} {w w' : World} (h : r.In w) (hb : Below w.heap.size w w') : r.In w' := ⟨h.cells.below hb, fun i hi => (h.rows i hi).below hb⟩
set_option maxHeartbeats 1000000 in
theorem notI (g : Nat) (lb : Array Value) (eg : ∀ args w, (callFunc g args).run Tryz.prog w = .ok (.enter g args) w) (b : Bool) (x : Int) (bb : Nat) (w : World) (hbb : w.cell? ⟨bb, 0, none⟩ = some (.func (.func g) #[] lb))
    (V : ∀ (W : World), Below w.heap.size w W → Calls Tryz.prog g (#[(.int .i64 x)] ++ lb) W fun e w' => e = .returned (.bool b) ∧ Below W.heap.size W w') :
    Calls Tryz.prog 69 #[(.int .i64 x), .pointer (some ⟨bb, 0, none⟩)] w fun e w' => e = .returned (.bool (!b)) ∧ Below w.heap.size w w' := by
  have HV := Lib.hid (V w (Below.refl _ _)); clear V
  go_enter Tryz.func69, Tryz.ntmps69
  go_wp2_with (go_at_fn g; refine HV.out.mono ?_; rintro e w' ⟨rfl, hb⟩)
  go_ret
  exact ⟨by cases b <;> rfl, hb⟩

set_option maxRecDepth 100000 in
set_option maxHeartbeats 1000000 in
theorem ixI (g : Nat) (lb : Array Value) (eg : ∀ args w, (callFunc g args).run Tryz.prog w = .ok (.enter g args) w) (p : Nat → Bool) (a : Option Addr) (n c : Nat) (L : Nat → Int) (bb : Nat) (w : World) (hbb : w.cell? ⟨bb, 0, none⟩ = some (.func (.func g) #[] lb)) (hn : n ≤ 9223372036854775807) (hS : CellsAt w a n fun i => .int .i64 (L i))
    (V : ∀ (W : World) (i : Nat), Below w.heap.size w W → i < n → Calls Tryz.prog g (#[(.int .i64 (L i))] ++ lb) W fun e w' => e = .returned (.bool (p i)) ∧ Below W.heap.size W w') :
    Calls Tryz.prog 79 #[.slice a n c, .func (.func 69) #[] #[.pointer (some ⟨bb, 0, none⟩)]] w fun e w' => IxEnd p n e ∧ Below w.heap.size w w' := by
  have HS := Lib.hid hS; clear hS
  have HV := Lib.hid V; clear V
  have HB := Lib.hid hbb; clear hbb
  go_enter Tryz.func79, Tryz.ntmps79
  go_wp2_with fail
  go_loopw [8] (fun t wr => ∃ k : Nat, k ≤ n ∧ t = .int .i64 k ∧ Hid (∀ i, i < k → p i = true) ∧ ∃ x, wr = gw w x) (fun t _ => n - (intOf t).toNat)
  case atStart => exact ⟨0, Nat.zero_le _, rfl, Lib.hid (fun i hi => by omega), ⟨#[], w.drawn⟩, by simp [gw]⟩
  case round =>
    obtain ⟨k, hk, rfl, hall, x, rfl⟩ := hrel
    by_cases hlt : k < n
    · have NS := Lib.hid (notI g lb eg (p k) (L k) bb (gw w x) ((gw_cell (World.block_lt_of_cell? w _ HB.out)).trans HB.out) (fun W hb => HV.out W k (thru hb (below_gw w x)) hlt))
      rcases HS.out with h0 | ⟨b, off, rfl, lb0, hc⟩
      · omega
      have x1 := hc k hlt
      dsimp only at x1
      clear hc
      cases hp : p k with
      | true =>
        rw [hp] at NS
        have HP := Lib.hid hp; clear hp
        go_wp2_with fail
        refine (Calls.gw_of NS.out).mono ?_
        rintro e w1 ⟨rfl, y, rfl⟩
        go_wp2_with fail
        go_roundw
        case rel => exact ⟨k + 1, by omega, by go_num, Lib.hid (all_succ (P := fun i => p i = true) hall.out HP.out), y, rfl⟩
        case measure => simp [intOf]; omega
      | false =>
        rw [hp] at NS
        have HP := Lib.hid hp; clear hp
        go_wp2_with fail
        refine (Calls.gw_of NS.out).mono ?_
        rintro e w1 ⟨rfl, y, rfl⟩
        go_wp2_with fail
        go_ret
        exact ⟨.inr ⟨k, hlt, allB_f hlt HP.out, rfl⟩, below_gw w y⟩
    · obtain rfl : n = k := by omega
      go_wp2_with fail
      go_ret
      exact ⟨.inl ⟨allB_t.2 hall.out, rfl⟩, below_gw w x⟩

set_option maxHeartbeats 1000000 in
theorem hasI (g : Nat) (lb : Array Value) (eg : ∀ args w, (callFunc g args).run Tryz.prog w = .ok (.enter g args) w) (p : Nat → Bool) (a : Option Addr) (n c : Nat) (L : Nat → Int) (bb : Nat) (w : World) (hbb : w.cell? ⟨bb, 0, none⟩ = some (.func (.func g) #[] lb)) (hn : n ≤ 9223372036854775807) (hS : CellsAt w a n fun i => .int .i64 (L i))
    (V : ∀ (W : World) (i : Nat), Below w.heap.size w W → i < n → Calls Tryz.prog g (#[(.int .i64 (L i))] ++ lb) W fun e w' => e = .returned (.bool (p i)) ∧ Below W.heap.size W w') :
    Calls Tryz.prog 68 #[.slice a n c, .func (.func 69) #[] #[.pointer (some ⟨bb, 0, none⟩)]] w fun e w' => e = .returned (.bool (!allB n p)) ∧ Below w.heap.size w w' := by
  have IX := Lib.hid (ixI g lb eg p a n c L bb w hbb hn hS V); clear hS V hbb
  go_enter Tryz.func68, Tryz.ntmps68
  go_wp2_with fail
  refine IX.out.mono ?_
  rintro e w1 ⟨he, hb⟩
  have HB := Lib.hid hb; clear hb
  rcases he with ⟨h, rfl⟩ | ⟨j, hj, h, rfl⟩
  · have H := Lib.hid h; clear h
    go_wp2_with fail
    go_ret
    exact ⟨by rw [H.out]; rfl, HB.out⟩
  · have H := Lib.hid h; clear h
    go_wp2_with fail
    go_ret
    exact ⟨by rw [H.out]; rfl, HB.out⟩

set_option maxHeartbeats 1000000 in
theorem allI (g : Nat) (lb : Array Value) (eg : ∀ args w, (callFunc g args).run Tryz.prog w = .ok (.enter g args) w) (p : Nat → Bool) (a : Option Addr) (n c : Nat) (L : Nat → Int) (w : World) (hn : n ≤ 9223372036854775807) (hS : CellsAt w a n fun i => .int .i64 (L i))
    (V : ∀ (W : World) (i : Nat), Below w.heap.size w W → i < n → Calls Tryz.prog g (#[(.int .i64 (L i))] ++ lb) W fun e w' => e = .returned (.bool (p i)) ∧ Below W.heap.size W w') :
    Calls Tryz.prog 47 #[.slice a n c, .func (.func g) #[] lb] w fun e w' => e = .returned (.bool (allB n p)) ∧ Below w.heap.size w w' := by
  have hmf : ∀ (fn : Fn) (first cap : Array Value) (w : World), (Instr.makeFunc fn first cap).run Tryz.prog w = .ok (.func fn first cap) w := fun _ _ _ _ => rfl
  obtain ⟨W1, hW1⟩ : ∃ W1, w.alloc (.cells #[.func (.func g) #[] lb] 90) = W1 := ⟨_, rfl⟩
  have hBc : Below w.heap.size w W1 := by rw [← hW1]; exact below_alloc _ _
  have zc0 : W1.heap[w.heap.size]? = some (.cells #[.func (.func g) #[] lb] 90 (0, 0)) := by rw [← hW1]; exact alloc_at rfl
  have c00 : W1.cell? ⟨w.heap.size, 0, none⟩ = some (.func (.func g) #[] lb) := cell_of_block zc0 0 (by simp)
  have lc0 := (Array.getElem?_eq_some_iff.1 zc0).1
  clear zc0
  have HBc := Lib.hid hBc; clear hBc
  have HWc := Lib.hid hW1; clear hW1
  have HA := Lib.hid (hasI g lb eg p a n c L w.heap.size W1 c00 hn (hS.below HBc.out) (fun W i hb hi => V W i (thru hb HBc.out) hi)); clear hS V
  go_enter Tryz.func47, Tryz.ntmps47
  go_upto_region 1 with (fail)
  rw [HWc.out]
  go_wp2_with fail
  refine HA.out.mono ?_
  rintro e w1 ⟨rfl, hb⟩
  have HB := Lib.hid hb; clear hb
  go_wp2_with fail
  go_ret
  exact ⟨by cases allB n p <;> rfl, thru HB.out HBc.out⟩

set_option maxHeartbeats 1000000 in
theorem notR (g : Nat) (lb : Array Value) (eg : ∀ args w, (callFunc g args).run Tryz.prog w = .ok (.enter g args) w) (b : Bool) (xa : Option Addr) (xn xc : Nat) (bb : Nat) (w : World) (hbb : w.cell? ⟨bb, 0, none⟩ = some (.func (.func g) #[] lb))
    (V : ∀ (W : World), Below w.heap.size w W → Calls Tryz.prog g (#[(.slice xa xn xc)] ++ lb) W fun e w' => e = .returned (.bool b) ∧ Below W.heap.size W w') :
    Calls Tryz.prog 71 #[(.slice xa xn xc), .pointer (some ⟨bb, 0, none⟩)] w fun e w' => e = .returned (.bool (!b)) ∧ Below w.heap.size w w' := by
  have HV := Lib.hid (V w (Below.refl _ _)); clear V
  go_enter Tryz.func71, Tryz.ntmps71
  go_wp2_with (go_at_fn g; refine HV.out.mono ?_; rintro e w' ⟨rfl, hb⟩)
  go_ret
  exact ⟨by cases b <;> rfl, hb⟩

set_option maxRecDepth 100000 in
set_option maxHeartbeats 1000000 in
theorem ixR (g : Nat) (lb : Array Value) (eg : ∀ args w, (callFunc g args).run Tryz.prog w = .ok (.enter g args) w) (p : Nat → Bool) (a : Option Addr) (n c : Nat) (A : Nat → Option Addr) (N C : Nat → Nat) (bb : Nat) (w : World) (hbb : w.cell? ⟨bb, 0, none⟩ = some (.func (.func g) #[] lb)) (hn : n ≤ 9223372036854775807) (hS : CellsAt w a n fun i => .slice (A i) (N i) (C i))
    (V : ∀ (W : World) (i : Nat), Below w.heap.size w W → i < n → Calls Tryz.prog g (#[(.slice (A i) (N i) (C i))] ++ lb) W fun e w' => e = .returned (.bool (p i)) ∧ Below W.heap.size W w') :
    Calls Tryz.prog 80 #[.slice a n c, .func (.func 71) #[] #[.pointer (some ⟨bb, 0, none⟩)]] w fun e w' => IxEnd p n e ∧ Below w.heap.size w w' := by
  have HS := Lib.hid hS; clear hS
  have HV := Lib.hid V; clear V
  have HB := Lib.hid hbb; clear hbb
  go_enter Tryz.func80, Tryz.ntmps80
  go_wp2_with fail
  go_loopw [8] (fun t wr => ∃ k : Nat, k ≤ n ∧ t = .int .i64 k ∧ Hid (∀ i, i < k → p i = true) ∧ ∃ x, wr = gw w x) (fun t _ => n - (intOf t).toNat)
  case atStart => exact ⟨0, Nat.zero_le _, rfl, Lib.hid (fun i hi => by omega), ⟨#[], w.drawn⟩, by simp [gw]⟩
  case round =>
    obtain ⟨k, hk, rfl, hall, x, rfl⟩ := hrel
    by_cases hlt : k < n
    · have NS := Lib.hid (notR g lb eg (p k) (A k) (N k) (C k) bb (gw w x) ((gw_cell (World.block_lt_of_cell? w _ HB.out)).trans HB.out) (fun W hb => HV.out W k (thru hb (below_gw w x)) hlt))
      rcases HS.out with h0 | ⟨b, off, rfl, lb0, hc⟩
      · omega
      have x1 := hc k hlt
      dsimp only at x1
      clear hc
      cases hp : p k with
      | true =>
        rw [hp] at NS
        have HP := Lib.hid hp; clear hp
        go_wp2_with fail
        refine (Calls.gw_of NS.out).mono ?_
        rintro e w1 ⟨rfl, y, rfl⟩
        go_wp2_with fail
        go_roundw
        case rel => exact ⟨k + 1, by omega, by go_num, Lib.hid (all_succ (P := fun i => p i = true) hall.out HP.out), y, rfl⟩
        case measure => simp [intOf]; omega
      | false =>
        rw [hp] at NS
        have HP := Lib.hid hp; clear hp
        go_wp2_with fail
        refine (Calls.gw_of NS.out).mono ?_
        rintro e w1 ⟨rfl, y, rfl⟩
        go_wp2_with fail
        go_ret
        exact ⟨.inr ⟨k, hlt, allB_f hlt HP.out, rfl⟩, below_gw w y⟩
    · obtain rfl : n = k := by omega
      go_wp2_with fail
      go_ret
      exact ⟨.inl ⟨allB_t.2 hall.out, rfl⟩, below_gw w x⟩

set_option maxHeartbeats 1000000 in
theorem hasR (g : Nat) (lb : Array Value) (eg : ∀ args w, (callFunc g args).run Tryz.prog w = .ok (.enter g args) w) (p : Nat → Bool) (a : Option Addr) (n c : Nat) (A : Nat → Option Addr) (N C : Nat → Nat) (bb : Nat) (w : World) (hbb : w.cell? ⟨bb, 0, none⟩ = some (.func (.func g) #[] lb)) (hn : n ≤ 9223372036854775807) (hS : CellsAt w a n fun i => .slice (A i) (N i) (C i))
    (V : ∀ (W : World) (i : Nat), Below w.heap.size w W → i < n → Calls Tryz.prog g (#[(.slice (A i) (N i) (C i))] ++ lb) W fun e w' => e = .returned (.bool (p i)) ∧ Below W.heap.size W w') :
    Calls Tryz.prog 70 #[.slice a n c, .func (.func 71) #[] #[.pointer (some ⟨bb, 0, none⟩)]] w fun e w' => e = .returned (.bool (!allB n p)) ∧ Below w.heap.size w w' := by
  have IX := Lib.hid (ixR g lb eg p a n c A N C bb w hbb hn hS V); clear hS V hbb
  go_enter Tryz.func70, Tryz.ntmps70
  go_wp2_with fail
  refine IX.out.mono ?_
  rintro e w1 ⟨he, hb⟩
  have HB := Lib.hid hb; clear hb
  rcases he with ⟨h, rfl⟩ | ⟨j, hj, h, rfl⟩
  · have H := Lib.hid h; clear h
    go_wp2_with fail
    go_ret
    exact ⟨by rw [H.out]; rfl, HB.out⟩
  · have H := Lib.hid h; clear h
    go_wp2_with fail
    go_ret
    exact ⟨by rw [H.out]; rfl, HB.out⟩

set_option maxHeartbeats 1000000 in
theorem allR (g : Nat) (lb : Array Value) (eg : ∀ args w, (callFunc g args).run Tryz.prog w = .ok (.enter g args) w) (p : Nat → Bool) (a : Option Addr) (n c : Nat) (A : Nat → Option Addr) (N C : Nat → Nat) (w : World) (hn : n ≤ 9223372036854775807) (hS : CellsAt w a n fun i => .slice (A i) (N i) (C i))
    (V : ∀ (W : World) (i : Nat), Below w.heap.size w W → i < n → Calls Tryz.prog g (#[(.slice (A i) (N i) (C i))] ++ lb) W fun e w' => e = .returned (.bool (p i)) ∧ Below W.heap.size W w') :
    Calls Tryz.prog 49 #[.slice a n c, .func (.func g) #[] lb] w fun e w' => e = .returned (.bool (allB n p)) ∧ Below w.heap.size w w' := by
  have hmf : ∀ (fn : Fn) (first cap : Array Value) (w : World), (Instr.makeFunc fn first cap).run Tryz.prog w = .ok (.func fn first cap) w := fun _ _ _ _ => rfl
  obtain ⟨W1, hW1⟩ : ∃ W1, w.alloc (.cells #[.func (.func g) #[] lb] 88) = W1 := ⟨_, rfl⟩
  have hBc : Below w.heap.size w W1 := by rw [← hW1]; exact below_alloc _ _
  have zc0 : W1.heap[w.heap.size]? = some (.cells #[.func (.func g) #[] lb] 88 (0, 0)) := by rw [← hW1]; exact alloc_at rfl
  have c00 : W1.cell? ⟨w.heap.size, 0, none⟩ = some (.func (.func g) #[] lb) := cell_of_block zc0 0 (by simp)
  have lc0 := (Array.getElem?_eq_some_iff.1 zc0).1
  clear zc0
  have HBc := Lib.hid hBc; clear hBc
  have HWc := Lib.hid hW1; clear hW1
  have HA := Lib.hid (hasR g lb eg p a n c A N C w.heap.size W1 c00 hn (hS.below HBc.out) (fun W i hb hi => V W i (thru hb HBc.out) hi)); clear hS V
  go_enter Tryz.func49, Tryz.ntmps49
  go_upto_region 1 with (fail)
  rw [HWc.out]
  go_wp2_with fail
  refine HA.out.mono ?_
  rintro e w1 ⟨rfl, hb⟩
  have HB := Lib.hid hb; clear hb
  go_wp2_with fail
  go_ret
  exact ⟨by cases allB n p <;> rfl, thru HB.out HBc.out⟩

end Go.Proofs.YtjgnafhbeekebaaGreat.L1

namespace Go.Proofs.YtjgnafhbeekebaaGreat.L1
open Go.RowKit
open Go.Proofs.YtjgnafhbeekebaaGreat

attribute [local go_sem] gw_cell gw_frozen gw_size

/-- numbers rise, within limits -/
def risB (L : Nat → Int) (lo hi : Int) (i : Nat) : Bool := inB (L i) lo hi && (decide (i = 0) || decide (L (i - 1) < L i))
def risesB (L : Nat → Int) (n : Nat) (lo hi : Int) : Bool := allB n (risB L lo hi)
theorem risesB_t {L : Nat → Int} {n : Nat} {lo hi : Int} (h : risesB L n lo hi = true) : Rises L n ∧ ∀ i, i < n → lo ≤ L i ∧ L i ≤ hi := by
  have h' := allB_t.1 h
  refine ⟨fun i hi => ?_, fun i hi => ?_⟩
  · have := h' (i + 1) hi
    simp [risB] at this
    exact this.2
  · have := h' i hi
    simp only [risB, Bool.and_eq_true] at this
    exact inB_t.1 this.1

set_option maxRecDepth 100000 in
set_option maxHeartbeats 1000000 in
theorem rises_any (a : Option Addr) (n c : Nat) (L : Nat → Int) (lo hi : Int) (w : World) (hn : n ≤ 9223372036854775807) (hS : IntsAt w a n L) :
    Calls Tryz.prog 44 #[.slice a n c, .int .i64 lo, .int .i64 hi] w fun e w' => e = .returned (.bool (risesB L n lo hi)) ∧ w = w' := by
  have HS := Lib.hid hS; clear hS
  go_enter Tryz.func44, Tryz.ntmps44
  go_wp2_with fail
  go_loop [11] (fun t => ∃ k : Nat, k ≤ n ∧ t = .int .i64 k ∧ Hid (∀ i, i < k → risB L lo hi i = true)) (fun t => n - (intOf t).toNat)
  case atStart => exact ⟨0, Nat.zero_le _, rfl, Lib.hid (fun i hi => by omega)⟩
  case round =>
    obtain ⟨k, hk, rfl, hall⟩ := hrel
    by_cases hlt : k < n
    · rcases HS.out with h0 | ⟨b, off, rfl, lb0, hc⟩
      · omega
      have x1 := hc k hlt
      cases h1 : inB (L k) lo hi with
      | false =>
        have HF := Lib.hid (show risesB L n lo hi = false from allB_f hlt (by unfold risB; rw [h1]; rfl))
        have T1 := Lib.hid h1; clear h1 hc
        go_wp2_with fail
        refine (within_b _ _ _ _ T1.out).mono ?_
        rintro e w1 ⟨rfl, rfl⟩
        go_wp2_with fail
        go_ret
        exact ⟨by rw [HF.out]; rfl, rfl⟩
      | true =>
        by_cases h0 : k = 0
        · subst h0
          have HT := Lib.hid (show risB L lo hi 0 = true by unfold risB; rw [h1]; rfl)
          have T1 := Lib.hid h1; clear h1 hc
          rw [Nat.add_zero] at x1
          go_wp2_with fail
          refine (within_b _ _ _ _ T1.out).mono ?_
          rintro e w1 ⟨rfl, rfl⟩
          go_wp2_with fail
          go_round
          case rel => exact ⟨0 + 1, by omega, by go_num, Lib.hid (all_succ (P := fun i => risB L lo hi i = true) hall.out HT.out)⟩
          case measure => simp [intOf]; omega
        · have x2 := hc (k - 1) (by omega)
          have e1 : ((k : Int) - 1).toNat = k - 1 := by omega
          have g0 : 0 < (k : Int) := by omega
          obtain ⟨u, hu⟩ : ∃ u, L (k - 1) = u := ⟨_, rfl⟩
          rw [hu] at x2
          by_cases h2 : L k ≤ u
          · have HF := Lib.hid (show risesB L n lo hi = false from allB_f hlt (by unfold risB; rw [hu, decide_eq_false (show ¬ u < L k by omega), decide_eq_false h0]; simp))
            have T1 := Lib.hid h1; have HU := Lib.hid hu; clear h1 hc hu
            go_wp2_with fail
            refine (within_b _ _ _ _ T1.out).mono ?_
            rintro e w1 ⟨rfl, rfl⟩
            go_wp2_with fail
            go_ret
            exact ⟨by rw [HF.out]; rfl, rfl⟩
          · have HT := Lib.hid (show risB L lo hi k = true by unfold risB; rw [h1, hu, decide_eq_true (show u < L k by omega)]; simp)
            have T1 := Lib.hid h1; have HU := Lib.hid hu; clear h1 hc hu
            go_wp2_with fail
            refine (within_b _ _ _ _ T1.out).mono ?_
            rintro e w1 ⟨rfl, rfl⟩
            go_wp2_with fail
            go_round
            case rel => exact ⟨k + 1, by omega, by go_num, Lib.hid (all_succ (P := fun i => risB L lo hi i = true) hall.out HT.out)⟩
            case measure => simp [intOf]; omega
    · obtain rfl : n = k := by omega
      have HT := Lib.hid (show risesB L n lo hi = true from allB_t.2 hall.out)
      go_wp2_with fail
      go_ret
      exact ⟨by rw [HT.out]; rfl, rfl⟩

set_option maxRecDepth 100000 in
set_option maxHeartbeats 1000000 in
theorem rrises_any (a : Option Addr) (n c : Nat) (L : Nat → Int) (lo hi : Int) (w : World) (hn : n ≤ 9223372036854775806) (hS : IntsAt w a n L) :
    Calls Tryz.prog 20 #[.slice a n c, .int .i64 lo, .int .i64 hi] w fun e w' => e = .returned (.bool (risesB L n lo hi)) ∧ Below w.heap.size w w' := by
  have HS := Lib.hid hS; clear hS
  go_enter Tryz.func20, Tryz.ntmps20
  go_wp2_with fail
  go_loopw [7] (fun t wr => ∃ k : Nat, k ≤ n ∧ t = .int .i64 k ∧ Hid (∀ i, i < k → risB L lo hi i = true) ∧ ∃ x, wr = gw w x) (fun t _ => n - (intOf t).toNat)
  case atStart => exact ⟨0, Nat.zero_le _, rfl, Lib.hid (fun i hi => by omega), ⟨#[], w.drawn⟩, by simp [gw]⟩
  case round =>
    obtain ⟨k, hk, rfl, hall, x, rfl⟩ := hrel
    by_cases hlt : k < n
    · rcases HS.out with h0 | ⟨b, off, rfl, lb0, hc⟩
      · omega
      have x1 := hc k hlt
      cases h1 : inB (L k) lo hi with
      | false =>
        have HF := Lib.hid (show risesB L n lo hi = false from allB_f hlt (by unfold risB; rw [h1]; rfl))
        have T1 := Lib.hid h1; clear h1 hc
        go_upto_region 4 with (fail)
        refine wp_region_gw2 (by kernel_rfl) (by kernel_rfl) ?_
        repeat (go_big_quiet_step ((go_at_call 19; exact Calls.gw_of_same (rin_b _ _ _ _ T1.out))))
        refine wpQuiet_nil ?_
        rintro _ ⟨z, rfl⟩
        go_wp2_with fail
        go_ret
        exact ⟨by rw [HF.out]; rfl, below_gw w z⟩
      | true =>
        by_cases h0 : k = 0
        · subst h0
          have HT := Lib.hid (show risB L lo hi 0 = true by unfold risB; rw [h1]; rfl)
          have T1 := Lib.hid h1; clear h1 hc
          rw [Nat.add_zero] at x1
          go_upto_region 4 with (fail)
          refine wp_region_gw2 (by kernel_rfl) (by kernel_rfl) ?_
          repeat (go_big_quiet_step ((go_at_call 19; exact Calls.gw_of_same (rin_b _ _ _ _ T1.out))))
          refine wpQuiet_nil ?_
          rintro _ ⟨z, rfl⟩
          go_wp2_with fail
          go_roundw
          case rel => exact ⟨0 + 1, by omega, by go_num, Lib.hid (all_succ (P := fun i => risB L lo hi i = true) hall.out HT.out), z, rfl⟩
          case measure => simp [intOf]; omega
        · have x2 := hc (k - 1) (by omega)
          have e1 : ((k : Int) - 1).toNat = k - 1 := by omega
          have g0 : 0 < (k : Int) := by omega
          have g1 : 0 < k := by omega
          have g2 : ¬ k = 0 := h0
          obtain ⟨u, hu⟩ : ∃ u, L (k - 1) = u := ⟨_, rfl⟩
          rw [hu] at x2
          by_cases h2 : L k ≤ u
          · have HF := Lib.hid (show risesB L n lo hi = false from allB_f hlt (by unfold risB; rw [hu, decide_eq_false (show ¬ u < L k by omega), decide_eq_false h0]; simp))
            have T1 := Lib.hid h1; have HU := Lib.hid hu; clear h1 hc hu
            go_upto_region 4 with (fail)
            refine wp_region_gw2 (by kernel_rfl) (by kernel_rfl) ?_
            repeat (go_big_quiet_step ((go_at_call 19; exact Calls.gw_of_same (rin_b _ _ _ _ T1.out))))
            refine wpQuiet_nil ?_
            rintro _ ⟨z, rfl⟩
            go_wp2_with fail
            go_ret
            exact ⟨by rw [HF.out]; rfl, below_gw w z⟩
          · have HT := Lib.hid (show risB L lo hi k = true by unfold risB; rw [h1, hu, decide_eq_true (show u < L k by omega)]; simp)
            have T1 := Lib.hid h1; have HU := Lib.hid hu; clear h1 hc hu
            go_upto_region 4 with (fail)
            refine wp_region_gw2 (by kernel_rfl) (by kernel_rfl) ?_
            repeat (go_big_quiet_step ((go_at_call 19; exact Calls.gw_of_same (rin_b _ _ _ _ T1.out))))
            refine wpQuiet_nil ?_
            rintro _ ⟨z, rfl⟩
            go_wp2_with fail
            go_roundw
            case rel => exact ⟨k + 1, by omega, by go_num, Lib.hid (all_succ (P := fun i => risB L lo hi i = true) hall.out HT.out), z, rfl⟩
            case measure => simp [intOf]; omega
    · obtain rfl : n = k := by omega
      have HT := Lib.hid (show risesB L n lo hi = true from allB_t.2 hall.out)
      go_wp2_with fail
      go_ret
      exact ⟨by rw [HT.out]; rfl, below_gw w x⟩
end Go.Proofs.YtjgnafhbeekebaaGreat.L1
