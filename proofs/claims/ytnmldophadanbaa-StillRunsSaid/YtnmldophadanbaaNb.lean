/- Contracts of the reference's up, Line, vapour. No conditions beyond each theorem's own. -/
import Derived.Test.YtnmldophadanbaaNa
set_option linter.unusedVariables false
set_option linter.unusedSimpArgs false
set_option linter.unusedSectionVars false
set_option linter.constructorNameAsVariable false
namespace Go.Proofs.Ytnmldophadanbaa
open Go.RowKit

attribute [local go_sem] gw_cell gw_frozen gw_size

set_option maxHeartbeats 400000 in
theorem rup_any (a b : Int) (w : World) (ha : 0 ≤ a) (ha2 : a ≤ 4000000000000000000) (hb : 1 ≤ b) (hb2 : b ≤ 4000000000000000000) :
    Calls Try.prog 63 #[.int .i64 a, .int .i64 b] w fun e w' => e = .returned (.int .i64 (upI a b)) ∧ w = w' := by
  unfold upI
  have h0 : ¬ b = 0 := by omega
  go_enter Try.func63, Try.ntmps63
  go_wp2
  go_ret
  exact ⟨rfl, rfl⟩

theorem mul_abs {a b A B : Int} (h1 : -A ≤ a) (h2 : a ≤ A) (h3 : -B ≤ b) (h4 : b ≤ B) : -(A * B) ≤ a * b ∧ a * b ≤ A * B := by
  have hA : 0 ≤ A := by omega
  have hB : 0 ≤ B := by omega
  have e : (a * b).natAbs ≤ A.natAbs * B.natAbs := by
    rw [Int.natAbs_mul]
    exact Nat.mul_le_mul (by omega) (by omega)
  have e2 : ((A.natAbs * B.natAbs : Nat) : Int) = A * B := by rw [Int.natCast_mul]; congr 1 <;> omega
  omega
/-- the segment in which the reference looks -/
structure RSeg (L : Nat → Int) (n i : Nat) (num den : Int) : Prop where
  lt : i + 1 < n
  le : ∀ t, t < i → t + 2 < n ∧ L (t + 1) * den ≤ num
  stop : ¬ (i + 2 < n ∧ L (i + 1) * den ≤ num)
def rnum (L E : Nat → Int) (i : Nat) (num den : Int) : Int := E i * (L (i + 1) - L i) * den + (E (i + 1) - E i) * (num - L i * den)
def rden (L : Nat → Int) (i : Nat) (den : Int) : Int := (L (i + 1) - L i) * den

theorem rseg_ex (L : Nat → Int) (n : Nat) (num den : Int) (hn : 2 ≤ n) : ∃ i, RSeg L n i num den := by
  have key : ∀ d i, n = i + 2 + d → (∀ t, t < i → t + 2 < n ∧ L (t + 1) * den ≤ num) → ∃ i, RSeg L n i num den := by
    intro d
    induction d with
    | zero => exact fun i hi h => ⟨i, by omega, h, by omega⟩
    | succ d ih =>
      intro i hi h
      by_cases hc : L (i + 1) * den ≤ num
      · exact ih (i + 1) (by omega) fun t ht => by
          by_cases e : t = i
          · subst e; exact ⟨by omega, hc⟩
          · exact h t (by omega)
      · exact ⟨i, by omega, h, fun hx => hc hx.2⟩
  exact key (n - 2) 0 (by omega) (fun t ht => by omega)

set_option maxRecDepth 100000 in
set_option maxHeartbeats 4000000 in
theorem rline_lo (aL aV : Option Addr) (n cL cV i : Nat) (num den : Int) (L A B : Nat → Int) (w : World) (g : Good n L A B) (hL : IntsAt w aL n L) (hV : SpansAt w aV n A B) (hs : RSeg L n i num den) (h0 : 0 ≤ num) (h1 : num ≤ 10000 * den) (h2 : 1 ≤ den) (h3 : den ≤ 1000000) :
    Calls Try.prog 52 #[.agg #[.slice aL n cL, .slice aV n cV], .bool false, .int .i64 num, .int .i64 den] w fun e w' => e = .returned (.tuple #[.int .i64 (rnum L A i num den), .int .i64 (rden L i den)]) ∧ Below w.heap.size w w' := by
  have two := g.two
  have most := g.most
  obtain ⟨i1, i2, i3⟩ := hs
  have RG := Lib.hid (fun t (ht : t < n) => g.range t ht)
  have IN := Lib.hid (fun t (ht : t + 1 < n) => g.inc t ht)
  have I2 := Lib.hid i2
  have I3 := Lib.hid i3
  clear i2 i3 g
  rcases hL with hx | ⟨b, off, rfl, hbl, hc⟩
  · omega
  rcases hV with hx | ⟨bv, offv, rfl, hbv, hcv⟩
  · omega
  obtain ⟨W1, hW1⟩ : ∃ W1, w.alloc (.cells #[.slice (some ⟨b, off, none⟩) n cL, .slice (some ⟨bv, offv, none⟩) n cV] 25) = W1 := ⟨_, rfl⟩
  have hB1 : Below w.heap.size w W1 := by rw [← hW1]; exact below_alloc _ _
  have f0 : W1.cell? ⟨w.heap.size, 0, none⟩ = some (.slice (some ⟨b, off, none⟩) n cL) := by rw [← hW1]; simp
  have f1 : W1.cell? ⟨w.heap.size, 1, none⟩ = some (.slice (some ⟨bv, offv, none⟩) n cV) := by rw [← hW1]; simp
  have z0 : w.heap.size < W1.heap.size := by rw [← hW1]; simp
  have z1 : b < W1.heap.size := by omega
  have z2 : bv < W1.heap.size := by omega
  have HC := Lib.hid (fun t (ht : t < n) => below_cell' hB1 (hc t ht))
  have HCV := Lib.hid (fun t (ht : t < n) => And.intro (below_cell' hB1 (hcv t ht).1) (below_cell' hB1 (hcv t ht).2))
  have HB := Lib.hid hB1
  have HW1 := Lib.hid hW1
  clear hc hcv hB1 hW1
  go_enter Try.func52, Try.ntmps52
  go_wp2_with fail
  rw [HW1.out]
  go_loopw [10] (fun t wr => ∃ j : Nat, j ≤ i ∧ t = .int .i64 j ∧ ∃ x, wr = gw W1 x) (fun t _ => i - (intOf t).toNat)
  case atStart => exact ⟨0, by omega, rfl, ⟨#[], W1.drawn⟩, by simp [gw]⟩
  case round =>
    obtain ⟨j, hj, rfl, x, rfl⟩ := hrel
    have lj := HC.out (j + 1) (by omega)
    have rj := RG.out (j + 1) (by omega)
    have p0 : 0 ≤ L (j + 1) * den := Int.mul_nonneg (by omega) (by omega)
    have p1 : L (j + 1) * den ≤ 10000 * 1000000 := Int.mul_le_mul (by omega) h3 (by omega) (by omega)
    by_cases hlt : j < i
    · obtain ⟨t1, t2⟩ := I2.out j hlt
      go_wp2_with fail
      go_roundw
      case rel => exact ⟨j + 1, by omega, by go_num, x, rfl⟩
      case measure => simp [intOf]; omega
    · obtain rfl : i = j := by omega
      have l0 := HC.out i (by omega)
      obtain ⟨a0, b0⟩ := HCV.out i (by omega)
      obtain ⟨a1, b1⟩ := HCV.out (i + 1) (by omega)
      have r0 := RG.out i (by omega)
      have inc := IN.out i (by omega)
      have RN := Lib.hid (show rnum L A i num den = A i * (L (i + 1) - L i) * den + (A (i + 1) - A i) * (num - L i * den) from rfl)
      have RD := Lib.hid (show rden L i den = (L (i + 1) - L i) * den from rfl)
      have q0 : 0 ≤ L i * den := Int.mul_nonneg (by omega) (by omega)
      have q1 : L i * den ≤ 10000 * 1000000 := Int.mul_le_mul (by omega) h3 (by omega) (by omega)
      have q2 : 0 ≤ (L (i + 1) - L i) * den := Int.mul_nonneg (by omega) (by omega)
      have q3 : (L (i + 1) - L i) * den ≤ 10000 * 1000000 := Int.mul_le_mul (by omega) h3 (by omega) (by omega)
      have q4 : 0 ≤ A i * (L (i + 1) - L i) := Int.mul_nonneg (by omega) (by omega)
      have q5 : A i * (L (i + 1) - L i) ≤ 10000 * 10000 := Int.mul_le_mul (by omega) (by omega) (by omega) (by omega)
      have q6 : 0 ≤ A i * (L (i + 1) - L i) * den := Int.mul_nonneg q4 (by omega)
      have q7 : A i * (L (i + 1) - L i) * den ≤ 10000 * 10000 * 1000000 := Int.mul_le_mul q5 h3 (by omega) (by omega)
      have q8 : -(10000 * 20000000000) ≤ (A (i + 1) - A i) * (num - L i * den) ∧ (A (i + 1) - A i) * (num - L i * den) ≤ 10000 * 20000000000 := mul_abs (by omega) (by omega) (by omega) (by omega)
      obtain ⟨q9, q10⟩ := q8
      have tst : ((i : Int) + 2 < (n : Int)) ∨ ¬ ((i : Int) + 2 < (n : Int)) := by omega
      rcases tst with c1 | c1
      · have c2 : ¬ L (i + 1) * den ≤ num := fun h => I3.out ⟨by omega, h⟩
        go_wp2_with fail
        refine wp_region_gw2 (by kernel_rfl) (by kernel_rfl) ?_
        repeat (go_big_quiet_step (fail))
        refine wpQuiet_nil ?_
        rintro _ ⟨y, rfl⟩
        go_wp2_with fail
        refine wp_region_gw2 (by kernel_rfl) (by kernel_rfl) ?_
        repeat (go_big_quiet_step (fail))
        refine wpQuiet_nil ?_
        rintro _ ⟨y, rfl⟩
        go_wp2_with fail
        rw [RN.out, RD.out]
        go_ret2
        exact ⟨rfl, HB.out.gw y⟩
      · go_wp2_with fail
        refine wp_region_gw2 (by kernel_rfl) (by kernel_rfl) ?_
        repeat (go_big_quiet_step (fail))
        refine wpQuiet_nil ?_
        rintro _ ⟨y, rfl⟩
        go_wp2_with fail
        refine wp_region_gw2 (by kernel_rfl) (by kernel_rfl) ?_
        repeat (go_big_quiet_step (fail))
        refine wpQuiet_nil ?_
        rintro _ ⟨y, rfl⟩
        go_wp2_with fail
        rw [RN.out, RD.out]
        go_ret2
        exact ⟨rfl, HB.out.gw y⟩

set_option maxRecDepth 100000 in
set_option maxHeartbeats 4000000 in
theorem rline_hi (aL aV : Option Addr) (n cL cV i : Nat) (num den : Int) (L A B : Nat → Int) (w : World) (g : Good n L A B) (hL : IntsAt w aL n L) (hV : SpansAt w aV n A B) (hs : RSeg L n i num den) (h0 : 0 ≤ num) (h1 : num ≤ 10000 * den) (h2 : 1 ≤ den) (h3 : den ≤ 1000000) :
    Calls Try.prog 52 #[.agg #[.slice aL n cL, .slice aV n cV], .bool true, .int .i64 num, .int .i64 den] w fun e w' => e = .returned (.tuple #[.int .i64 (rnum L B i num den), .int .i64 (rden L i den)]) ∧ Below w.heap.size w w' := by
  have two := g.two
  have most := g.most
  obtain ⟨i1, i2, i3⟩ := hs
  have RG := Lib.hid (fun t (ht : t < n) => g.range t ht)
  have IN := Lib.hid (fun t (ht : t + 1 < n) => g.inc t ht)
  have I2 := Lib.hid i2
  have I3 := Lib.hid i3
  clear i2 i3 g
  rcases hL with hx | ⟨b, off, rfl, hbl, hc⟩
  · omega
  rcases hV with hx | ⟨bv, offv, rfl, hbv, hcv⟩
  · omega
  obtain ⟨W1, hW1⟩ : ∃ W1, w.alloc (.cells #[.slice (some ⟨b, off, none⟩) n cL, .slice (some ⟨bv, offv, none⟩) n cV] 25) = W1 := ⟨_, rfl⟩
  have hB1 : Below w.heap.size w W1 := by rw [← hW1]; exact below_alloc _ _
  have f0 : W1.cell? ⟨w.heap.size, 0, none⟩ = some (.slice (some ⟨b, off, none⟩) n cL) := by rw [← hW1]; simp
  have f1 : W1.cell? ⟨w.heap.size, 1, none⟩ = some (.slice (some ⟨bv, offv, none⟩) n cV) := by rw [← hW1]; simp
  have z0 : w.heap.size < W1.heap.size := by rw [← hW1]; simp
  have z1 : b < W1.heap.size := by omega
  have z2 : bv < W1.heap.size := by omega
  have HC := Lib.hid (fun t (ht : t < n) => below_cell' hB1 (hc t ht))
  have HCV := Lib.hid (fun t (ht : t < n) => And.intro (below_cell' hB1 (hcv t ht).1) (below_cell' hB1 (hcv t ht).2))
  have HB := Lib.hid hB1
  have HW1 := Lib.hid hW1
  clear hc hcv hB1 hW1
  go_enter Try.func52, Try.ntmps52
  go_wp2_with fail
  rw [HW1.out]
  go_loopw [10] (fun t wr => ∃ j : Nat, j ≤ i ∧ t = .int .i64 j ∧ ∃ x, wr = gw W1 x) (fun t _ => i - (intOf t).toNat)
  case atStart => exact ⟨0, by omega, rfl, ⟨#[], W1.drawn⟩, by simp [gw]⟩
  case round =>
    obtain ⟨j, hj, rfl, x, rfl⟩ := hrel
    have lj := HC.out (j + 1) (by omega)
    have rj := RG.out (j + 1) (by omega)
    have p0 : 0 ≤ L (j + 1) * den := Int.mul_nonneg (by omega) (by omega)
    have p1 : L (j + 1) * den ≤ 10000 * 1000000 := Int.mul_le_mul (by omega) h3 (by omega) (by omega)
    by_cases hlt : j < i
    · obtain ⟨t1, t2⟩ := I2.out j hlt
      go_wp2_with fail
      go_roundw
      case rel => exact ⟨j + 1, by omega, by go_num, x, rfl⟩
      case measure => simp [intOf]; omega
    · obtain rfl : i = j := by omega
      have l0 := HC.out i (by omega)
      obtain ⟨a0, b0⟩ := HCV.out i (by omega)
      obtain ⟨a1, b1⟩ := HCV.out (i + 1) (by omega)
      have r0 := RG.out i (by omega)
      have inc := IN.out i (by omega)
      have RN := Lib.hid (show rnum L B i num den = B i * (L (i + 1) - L i) * den + (B (i + 1) - B i) * (num - L i * den) from rfl)
      have RD := Lib.hid (show rden L i den = (L (i + 1) - L i) * den from rfl)
      have q0 : 0 ≤ L i * den := Int.mul_nonneg (by omega) (by omega)
      have q1 : L i * den ≤ 10000 * 1000000 := Int.mul_le_mul (by omega) h3 (by omega) (by omega)
      have q2 : 0 ≤ (L (i + 1) - L i) * den := Int.mul_nonneg (by omega) (by omega)
      have q3 : (L (i + 1) - L i) * den ≤ 10000 * 1000000 := Int.mul_le_mul (by omega) h3 (by omega) (by omega)
      have q4 : 0 ≤ B i * (L (i + 1) - L i) := Int.mul_nonneg (by omega) (by omega)
      have q5 : B i * (L (i + 1) - L i) ≤ 10000 * 10000 := Int.mul_le_mul (by omega) (by omega) (by omega) (by omega)
      have q6 : 0 ≤ B i * (L (i + 1) - L i) * den := Int.mul_nonneg q4 (by omega)
      have q7 : B i * (L (i + 1) - L i) * den ≤ 10000 * 10000 * 1000000 := Int.mul_le_mul q5 h3 (by omega) (by omega)
      have q8 : -(10000 * 20000000000) ≤ (B (i + 1) - B i) * (num - L i * den) ∧ (B (i + 1) - B i) * (num - L i * den) ≤ 10000 * 20000000000 := mul_abs (by omega) (by omega) (by omega) (by omega)
      obtain ⟨q9, q10⟩ := q8
      have tst : ((i : Int) + 2 < (n : Int)) ∨ ¬ ((i : Int) + 2 < (n : Int)) := by omega
      rcases tst with c1 | c1
      · have c2 : ¬ L (i + 1) * den ≤ num := fun h => I3.out ⟨by omega, h⟩
        go_wp2_with fail
        refine wp_region_gw2 (by kernel_rfl) (by kernel_rfl) ?_
        repeat (go_big_quiet_step (fail))
        refine wpQuiet_nil ?_
        rintro _ ⟨y, rfl⟩
        go_wp2_with fail
        refine wp_region_gw2 (by kernel_rfl) (by kernel_rfl) ?_
        repeat (go_big_quiet_step (fail))
        refine wpQuiet_nil ?_
        rintro _ ⟨y, rfl⟩
        go_wp2_with fail
        refine wp_region_gw2 (by kernel_rfl) (by kernel_rfl) ?_
        repeat (go_big_quiet_step (fail))
        refine wpQuiet_nil ?_
        rintro _ ⟨y, rfl⟩
        go_wp2_with fail
        rw [RN.out, RD.out]
        go_ret2
        exact ⟨rfl, HB.out.gw y⟩
      · go_wp2_with fail
        refine wp_region_gw2 (by kernel_rfl) (by kernel_rfl) ?_
        repeat (go_big_quiet_step (fail))
        refine wpQuiet_nil ?_
        rintro _ ⟨y, rfl⟩
        go_wp2_with fail
        refine wp_region_gw2 (by kernel_rfl) (by kernel_rfl) ?_
        repeat (go_big_quiet_step (fail))
        refine wpQuiet_nil ?_
        rintro _ ⟨y, rfl⟩
        go_wp2_with fail
        refine wp_region_gw2 (by kernel_rfl) (by kernel_rfl) ?_
        repeat (go_big_quiet_step (fail))
        refine wpQuiet_nil ?_
        rintro _ ⟨y, rfl⟩
        go_wp2_with fail
        rw [RN.out, RD.out]
        go_ret2
        exact ⟨rfl, HB.out.gw y⟩
end Go.Proofs.Ytnmldophadanbaa
