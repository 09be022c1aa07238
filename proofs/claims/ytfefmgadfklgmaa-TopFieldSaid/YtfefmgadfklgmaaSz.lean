/- Plain laws of a table: what is seen of a strength rises; the strengths that show something; both ends are tight. Contracts of the tests of numbers and spans, of fractions, of pure alcohol. Contracts of up, plus, pure, isPart, Pure. Contract of Pure. Contract of Water. No conditions beyond each theorem's own. -/
import Derived.Test.YtfefmgadfklgmaaAa
import Derived.Test.YtfefmgadfklgmaaProg
import Derived.Test.YtfefmgadfklgmaaAl
import Derived.Lib.Hide
import Derived.Shelf.SlicesE.DeleteFunc
import Derived.Shelf.SlicesE.Clone
import Derived.Shelf.Bits.Mul64
import Derived.Shelf.Small.Bits
import Derived.Lib.OwnBridge
import Derived.Shelf.Abstract
set_option linter.unusedVariables false
set_option linter.unusedSimpArgs false
set_option linter.unusedSectionVars false
set_option linter.constructorNameAsVariable false
namespace Go.Proofs.Ytfefmgadfklgmaa.L1
open Go.Proofs.Ytfefmgadfklgmaa

section
variable {T S : Nat → Int} {nT nS : Nat} {M : Nat → Nat → Int}
end
/-- a table -/
structure Tb where
  nT : Nat
  nS : Nat
  T : Nat → Int
  S : Nat → Int
  H : Nat → Nat → Int
  R : Nat → Nat → Int
namespace Tb
def first (t : Tb) : Int := t.S 0
variable (t : Tb)
end Tb
section
variable {t : Tb} {lo hi tlo thi s s' : Int}
end
end Go.Proofs.Ytfefmgadfklgmaa.L1

namespace Go.Proofs.Ytfefmgadfklgmaa.L1
open Go.RowKit
open Go.Proofs.Ytfefmgadfklgmaa

attribute [local go_sem] gw_cell gw_frozen gw_size

set_option maxHeartbeats 400000 in
theorem within_any (n lo hi : Int) (w : World) :
    Calls Try.prog 40 #[.int .i64 n, .int .i64 lo, .int .i64 hi] w fun e w' => e = .returned (.bool (inB n lo hi)) ∧ w = w' := by
  by_cases h1 : lo ≤ n
  · by_cases h2 : n ≤ hi
    · have hb : inB n lo hi = true := by simp [inB, h1, h2]
      rw [hb]; clear hb
      go_enter Try.func40, Try.ntmps40
      go_wp2
      go_ret
      exact ⟨rfl, rfl⟩
    · have hb : inB n lo hi = false := by simp [inB, h2]
      rw [hb]; clear hb
      go_enter Try.func40, Try.ntmps40
      go_wp2
      go_ret
      exact ⟨rfl, rfl⟩
  · have hb : inB n lo hi = false := by simp [inB, h1]
    rw [hb]; clear hb
    go_enter Try.func40, Try.ntmps40
    go_wp2
    go_ret
    exact ⟨rfl, rfl⟩
set_option maxHeartbeats 400000 in
theorem isSpan_any (lo hi low high : Int) (w : World) :
    Calls Try.prog 56 #[.agg #[.int .i64 lo, .int .i64 hi], .int .i64 low, .int .i64 high] w fun e w' => e = .returned (.bool (spanB lo hi low high)) ∧ Below w.heap.size w w' := by
  by_cases h1 : low ≤ lo
  · by_cases h2 : lo ≤ hi
    · by_cases h3 : hi ≤ high
      · have hb : spanB lo hi low high = true := by simp [spanB, h1, h2, h3]
        rw [hb]; clear hb
        go_enter Try.func56, Try.ntmps56
        go_wp2
        go_ret
        exact ⟨rfl, (Below.refl _ _).alloc (Nat.le_refl _) _⟩
      · have hb : spanB lo hi low high = false := by simp [spanB, h3]
        rw [hb]; clear hb
        go_enter Try.func56, Try.ntmps56
        go_wp2
        go_ret
        exact ⟨rfl, (Below.refl _ _).alloc (Nat.le_refl _) _⟩
    · have hb : spanB lo hi low high = false := by simp [spanB, h2]
      rw [hb]; clear hb
      go_enter Try.func56, Try.ntmps56
      go_wp2
      go_ret
      exact ⟨rfl, (Below.refl _ _).alloc (Nat.le_refl _) _⟩
  · have hb : spanB lo hi low high = false := by simp [spanB, h1]
    rw [hb]; clear hb
    go_enter Try.func56, Try.ntmps56
    go_wp2
    go_ret
    exact ⟨rfl, (Below.refl _ _).alloc (Nat.le_refl _) _⟩
theorem isSpan_b {b : Bool} (lo hi low high : Int) (w : World) (h : spanB lo hi low high = b) :
    Calls Try.prog 56 #[.agg #[.int .i64 lo, .int .i64 hi], .int .i64 low, .int .i64 high] w fun e w' => e = .returned (.bool b) ∧ Below w.heap.size w w' := h ▸ isSpan_any lo hi low high w

end Go.Proofs.Ytfefmgadfklgmaa.L1

namespace Go.Proofs.Ytfefmgadfklgmaa.L1
open Go.RowKit
open Go.Proofs.Ytfefmgadfklgmaa

attribute [local go_sem] gw_cell gw_frozen gw_size

def partB (a b c d : Int) : Bool := spanB a b 0 1099511627776 && spanB c d 0 10000
set_option maxHeartbeats 400000 in
theorem isPart_any (a b c d : Int) (w : World) :
    Calls Try.prog 39 #[.agg #[.int .i64 a, .int .i64 b, .int .i64 c, .int .i64 d]] w fun e w' => e = .returned (.bool (partB a b c d)) ∧ Below w.heap.size w w' := by
  obtain ⟨W1, hW1⟩ : ∃ W1, w.alloc (.cells #[.int .i64 a, .int .i64 b, .int .i64 c, .int .i64 d] 76) = W1 := ⟨_, rfl⟩
  have hBc : Below w.heap.size w W1 := by rw [← hW1]; exact below_alloc _ _
  have zc0 : W1.heap[w.heap.size]? = some (.cells #[.int .i64 a, .int .i64 b, .int .i64 c, .int .i64 d] 76 (0, 0)) := by rw [← hW1]; exact alloc_at rfl
  have c00 : W1.cell? ⟨w.heap.size, 0, none⟩ = some (.int .i64 a) := cell_of_block zc0 0 (by simp)
  have c01 : W1.cell? ⟨w.heap.size, 1, none⟩ = some (.int .i64 b) := cell_of_block zc0 1 (by simp)
  have c02 : W1.cell? ⟨w.heap.size, 2, none⟩ = some (.int .i64 c) := cell_of_block zc0 2 (by simp)
  have c03 : W1.cell? ⟨w.heap.size, 3, none⟩ = some (.int .i64 d) := cell_of_block zc0 3 (by simp)
  have lc0 := (Array.getElem?_eq_some_iff.1 zc0).1
  clear zc0
  have HBc := Lib.hid hBc; clear hBc
  have HWc := Lib.hid hW1; clear hW1
  cases h1 : spanB a b 0 1099511627776 with
  | false =>
    have e : partB a b c d = false := by unfold partB; rw [h1]; rfl
    rw [e]
    have I1 := Lib.hid (fun w => isSpan_b (b := false) a b 0 1099511627776 w h1)
    clear h1 e
    go_enter Try.func39, Try.ntmps39
    go_upto_region 1 with (fail)
    rw [HWc.out]
    go_wp2_with fail
    refine (Calls.grown (I1.out _)).mono ?_
    rintro e w1 ⟨rfl, z1, rfl⟩
    go_wp2_with fail
    refine bodyPost_ret (v := .bool false) (by simp [results, Try.results39, go_sem, *]) rfl ⟨rfl, ?_⟩
    exact HBc.out.gw z1
  | true =>
    have e : partB a b c d = spanB c d 0 10000 := by unfold partB; rw [h1]; rfl
    rw [e]
    have I1 := Lib.hid (fun w => isSpan_b (b := true) a b 0 1099511627776 w h1)
    have I2 := Lib.hid (fun w => isSpan_any c d 0 10000 w)
    clear h1 e
    generalize spanB c d 0 10000 = x at *
    go_enter Try.func39, Try.ntmps39
    go_upto_region 1 with (fail)
    rw [HWc.out]
    go_wp2_with fail
    refine (Calls.grown (I1.out _)).mono ?_
    rintro e w1 ⟨rfl, z1, rfl⟩
    go_wp2_with fail
    refine (Calls.gw_of (I2.out _)).mono ?_
    rintro e w1 ⟨rfl, z2, rfl⟩
    go_wp2_with fail
    refine bodyPost_ret (v := .bool x) (by simp [results, Try.results39, go_sem, *]) rfl ⟨rfl, ?_⟩
    exact HBc.out.gw z2

end Go.Proofs.Ytfefmgadfklgmaa.L1

namespace Go.Proofs.Ytfefmgadfklgmaa.L1
open Go.RowKit
open Go.Proofs.Ytfefmgadfklgmaa

attribute [local go_sem] gw_cell gw_frozen gw_size

theorem partB_t {a b c d : Int} (h : partB a b c d = true) : 0 ≤ a ∧ a ≤ b ∧ b ≤ 1099511627776 ∧ 0 ≤ c ∧ c ≤ d ∧ d ≤ 10000 := by
  simp only [partB, spanB, Bool.and_eq_true, decide_eq_true_eq] at h
  omega
end Go.Proofs.Ytfefmgadfklgmaa.L1

namespace Go.Proofs.Ytfefmgadfklgmaa.L1
open Go.RowKit
open Go.Proofs.Ytfefmgadfklgmaa

attribute [local go_sem] gw_cell gw_frozen gw_size

def watE (a b c d n : Int) : Int := if partB a b c d = true then (if inB n 1 10000 = true then (if c < n then 11 else 0) else 2) else 1
def watN (a b c d n : Int) : Int := if watE a b c d n = 0 then min (1099511627776 - b) (a * (c - n) / n) else 0
set_option maxRecDepth 100000 in
set_option maxHeartbeats 2000000 in
theorem Water_any (a b c d n : Int) (w : World) :
    Calls Try.prog 20 #[.agg #[.int .i64 a, .int .i64 b, .int .i64 c, .int .i64 d], .int .i64 n] w fun e w' => e = .returned (.tuple #[.int .i64 (watN a b c d n), .int .i64 (watE a b c d n)]) ∧ Below w.heap.size w w' := by
  obtain ⟨W1, hW1⟩ : ∃ W1, w.alloc (.cells #[.int .i64 a, .int .i64 b, .int .i64 c, .int .i64 d] 76) = W1 := ⟨_, rfl⟩
  have hBc : Below w.heap.size w W1 := by rw [← hW1]; exact below_alloc _ _
  have zc0 : W1.heap[w.heap.size]? = some (.cells #[.int .i64 a, .int .i64 b, .int .i64 c, .int .i64 d] 76 (0, 0)) := by rw [← hW1]; exact alloc_at rfl
  have c00 : W1.cell? ⟨w.heap.size, 0, none⟩ = some (.int .i64 a) := cell_of_block zc0 0 (by simp)
  have c01 : W1.cell? ⟨w.heap.size, 1, none⟩ = some (.int .i64 b) := cell_of_block zc0 1 (by simp)
  have c02 : W1.cell? ⟨w.heap.size, 2, none⟩ = some (.int .i64 c) := cell_of_block zc0 2 (by simp)
  have c03 : W1.cell? ⟨w.heap.size, 3, none⟩ = some (.int .i64 d) := cell_of_block zc0 3 (by simp)
  have lc0 := (Array.getElem?_eq_some_iff.1 zc0).1
  clear zc0
  have HBc := Lib.hid hBc; clear hBc
  have HWc := Lib.hid hW1; clear hW1
  have IP := Lib.hid (fun w => isPart_any a b c d w)
  have IN := Lib.hid (fun w => within_any n 1 10000 w)
  cases h : partB a b c d with
  | false =>
    have e3 : watE a b c d n = 1 := by unfold watE; simp [h]
    have e1 : watN a b c d n = 0 := if_neg (by rw [e3]; decide)
    rw [e1, e3]
    rw [h] at IP
    clear h e1 e3 IN
    go_enter Try.func20, Try.ntmps20
    go_upto_region 1 with (fail)
    rw [HWc.out]
    go_wp2_with fail
    refine (Calls.grown (IP.out _)).mono ?_
    rintro e w1 ⟨rfl, z1, rfl⟩
    go_wp2_with fail
    go_ret2
    exact ⟨rfl, HBc.out.gw z1⟩
  | true =>
    cases h2 : inB n 1 10000 with
    | false =>
      have e3 : watE a b c d n = 2 := by unfold watE; simp [h, h2]
      have e1 : watN a b c d n = 0 := if_neg (by rw [e3]; decide)
      rw [e1, e3]
      simp only [h] at IP
      simp only [h2] at IN
      clear h h2 e1 e3
      go_enter Try.func20, Try.ntmps20
      go_upto_region 1 with (fail)
      rw [HWc.out]
      go_wp2_with fail
      refine (Calls.grown (IP.out _)).mono ?_
      rintro e w1 ⟨rfl, z1, rfl⟩
      go_wp2_with fail
      refine (IN.out _).mono ?_
      rintro e w1 ⟨rfl, rfl⟩
      go_wp2_with fail
      go_ret2
      exact ⟨rfl, HBc.out.gw z1⟩
    | true =>
      have hn : 1 ≤ n ∧ n ≤ 10000 := by simpa [inB] using h2
      obtain ⟨q1, q2, q3, q4, q5, q6⟩ := partB_t h
      by_cases h3 : c < n
      · skip
        have e3 : watE a b c d n = 11 := by unfold watE; simp [h, h2, h3]
        have e1 : watN a b c d n = 0 := if_neg (by rw [e3]; decide)
        rw [e1, e3]
        simp only [h] at IP
        simp only [h2] at IN
        clear h h2 e1 e3
        go_enter Try.func20, Try.ntmps20
        go_upto_region 1 with (fail)
        rw [HWc.out]
        go_wp2_with fail
        refine (Calls.grown (IP.out _)).mono ?_
        rintro e w1 ⟨rfl, z1, rfl⟩
        go_wp2_with fail
        refine (IN.out _).mono ?_
        rintro e w1 ⟨rfl, rfl⟩
        go_wp2_with fail
        go_ret2
        exact ⟨rfl, HBc.out.gw z1⟩
      · skip
        have e3 : watE a b c d n = 0 := by unfold watE; simp [h, h2, h3]
        have e1 : watN a b c d n = min (1099511627776 - b) (a * (c - n) / n) := if_pos e3
        rw [e1, e3]
        have x0 := Int.mul_nonneg q1 (show 0 ≤ c - n by omega)
        have x1 := Int.mul_le_mul (show a ≤ 1099511627776 by omega) (show c - n ≤ 10000 by omega) (by omega) (by omega)
        have v0 := Int.ediv_nonneg x0 (show 0 ≤ n by omega)
        have v1 : a * (c - n) / n ≤ a * (c - n) := Int.ediv_le_self _ x0
        obtain ⟨V, hV⟩ : ∃ V, a * (c - n) / n = V := ⟨_, rfl⟩
        obtain ⟨X, hX⟩ : ∃ X, a * (c - n) = X := ⟨_, rfl⟩
        rw [hV] at v0 v1 ⊢
        rw [hX] at x0 x1 v1 hV
        simp only [h] at IP
        simp only [h2] at IN
        have g1 : ¬ n = 0 := by omega
        clear h h2 e1 e3
        go_enter Try.func20, Try.ntmps20
        go_upto_region 1 with (fail)
        rw [HWc.out]
        go_wp2_with fail
        refine (Calls.grown (IP.out _)).mono ?_
        rintro e w1 ⟨rfl, z1, rfl⟩
        go_wp2_with fail
        refine (IN.out _).mono ?_
        rintro e w1 ⟨rfl, rfl⟩
        go_upto_region 7 with (fail)
        go_region
        go_wp2_with fail
        go_ret2
        first | exact ⟨rfl, HBc.out.gw z1⟩ | exact ⟨rfl, thru (below_drew _) (HBc.out.gw z1)⟩
end Go.Proofs.Ytfefmgadfklgmaa.L1
