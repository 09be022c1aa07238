/- Contracts of the reference's Cost and Ints. No conditions beyond each theorem's own. -/
import Derived.Test.YtdcpgjepgajioaaBb
set_option linter.unusedVariables false
set_option linter.unusedSimpArgs false
set_option linter.unusedSectionVars false
set_option linter.constructorNameAsVariable false
namespace Go.Proofs.Ytdcpgjepgajioaa
open Go.RowKit

attribute [local go_sem] gw_cell gw_frozen gw_size

def costN (R L : Nat → Int) : Nat → Int
  | 0 => 0
  | k + 1 => costN R L k + R k * L k
theorem costN_rng {R L : Nat → Int} {m : Nat} (hR : ∀ i, i < m → 0 ≤ R i ∧ R i ≤ 1073741824) (hl : ∀ i, i < m → 0 ≤ L i ∧ L i ≤ 8) : ∀ k, k ≤ m → 0 ≤ costN R L k ∧ costN R L k ≤ k * 8589934592
  | 0, _ => ⟨Int.le_refl _, Int.le_refl _⟩
  | k + 1, h => by
    obtain ⟨a, b⟩ := costN_rng hR hl k (by omega)
    have c := hR k (by omega)
    have d := hl k (by omega)
    have e := Int.mul_nonneg c.1 d.1
    have f : R k * L k ≤ 1073741824 * 8 := Int.le_trans (Int.mul_le_mul_of_nonneg_left d.2 c.1) (Int.mul_le_mul_of_nonneg_right c.2 (by omega))
    show 0 ≤ costN R L k + R k * L k ∧ costN R L k + R k * L k ≤ _
    push_cast
    omega

set_option maxRecDepth 100000 in
set_option maxHeartbeats 4000000 in
theorem rcost_any (y : Lyg) (aL : Option Addr) (m cL : Nat) (L : Nat → Int) (w : World) (hY : y.In w) (hL : IntsAt w aL m L) (hm : m ≤ y.nR) (hm2 : m ≤ 16) (hR : ∀ i, i < m → 0 ≤ y.R i ∧ y.R i ≤ 1073741824) (hl : ∀ i, i < m → 0 ≤ L i ∧ L i ≤ 8) :
    Calls Try.prog 27 #[y.val, .slice aL m cL] w fun e w' => e = .returned (.int .i64 (costN y.R L m)) ∧ Below w.heap.size w w' := by
  unfold Lyg.val
  obtain ⟨W1, hW1⟩ : ∃ W1, w.alloc (.cells #[.slice y.aR y.nR y.cR, .slice y.aM y.nM y.cM, .int .i64 y.lot, .int .i64 y.room] 29) = W1 := ⟨_, rfl⟩
  have hBc : Below w.heap.size w W1 := by rw [← hW1]; exact below_alloc _ _
  have zc0 : W1.heap[w.heap.size]? = some (.cells #[.slice y.aR y.nR y.cR, .slice y.aM y.nM y.cM, .int .i64 y.lot, .int .i64 y.room] 29 (0, 0)) := by rw [← hW1]; exact alloc_at rfl
  have c00 : W1.cell? ⟨w.heap.size, 0, none⟩ = some (.slice y.aR y.nR y.cR) := cell_of_block zc0 0 (by simp)
  have c01 : W1.cell? ⟨w.heap.size, 1, none⟩ = some (.slice y.aM y.nM y.cM) := cell_of_block zc0 1 (by simp)
  have c02 : W1.cell? ⟨w.heap.size, 2, none⟩ = some (.int .i64 y.lot) := cell_of_block zc0 2 (by simp)
  have c03 : W1.cell? ⟨w.heap.size, 3, none⟩ = some (.int .i64 y.room) := cell_of_block zc0 3 (by simp)
  have lc0 := (Array.getElem?_eq_some_iff.1 zc0).1
  have Zc0 := Lib.hid zc0
  clear zc0
  have HBc := Lib.hid hBc; clear hBc
  have HWc := Lib.hid hW1; clear hW1
  have HY := Lib.hid (hY.iR.below HBc.out); have HL := Lib.hid (hL.below HBc.out)
  have HC := Lib.hid (costN_rng hR hl); have HR := Lib.hid hR; have HLL := Lib.hid hl
  clear hY hL hR hl c00 c01 c02 c03
  go_enter Try.func27, Try.ntmps27
  go_upto_region 1 with (fail)
  rw [HWc.out]
  go_wp2_with fail
  go_loopw [5, 6] (fun n i wr => ∃ k : Nat, k ≤ m ∧ n = .int .i64 (costN y.R L k) ∧ i = .int .i64 (k : Int) ∧ Hid (Below W1.heap.size W1 wr)) (fun _ i _ => m - (intOf i).toNat)
  case atStart => exact ⟨0, Nat.zero_le _, rfl, rfl, Lib.hid (Below.refl _ _)⟩
  case round =>
    obtain ⟨k, hk, rfl, rfl, HB⟩ := hrel
    by_cases hlt : k < m
    · rcases HL.out with h0 | ⟨b, off, ea, lb, hc⟩
      · omega
      rcases HY.out with h0 | ⟨b2, off2, eb, lb2, hc2⟩
      · omega
      have x1 := (HB.out.cell (p := ⟨b, off + k, none⟩) lb).trans (hc k hlt)
      have x2 := (HB.out.cell (p := ⟨b2, off2 + k, none⟩) lb2).trans (hc2 k (by omega))
      have z := (HB.out.block _ lc0).trans Zc0.out
      have x0 : wr.cell? ⟨w.heap.size, 0, none⟩ = some (.slice (some ⟨b2, off2, none⟩) y.nR y.cR) := by rw [← eb]; exact cell_of_block z 0 (by simp)
      have l0 := (Array.getElem?_eq_some_iff.1 z).1
      have l1 : b < wr.heap.size := Nat.lt_of_lt_of_le lb HB.out.size
      have l2 : b2 < wr.heap.size := Nat.lt_of_lt_of_le lb2 HB.out.size
      have r0 := HC.out k hk
      have r1 := HC.out (k + 1) hlt
      have e1 : costN y.R L (k + 1) = costN y.R L k + y.R k * L k := rfl
      rw [e1] at r1
      have p0 := Int.mul_nonneg (HR.out k hlt).1 (HLL.out k hlt).1
      have p1 : y.R k * L k ≤ 8589934592 * 16 := by omega
      have hk1 : (k : Int) < (m : Int) := by omega
      have hk2 : (k : Int) < (y.nR : Int) := by omega
      have hw1 : IntKind.i64.wrap (y.R k * L k) = y.R k * L k := IntWalk.i64_in _ (by omega)
      have hw2 : IntKind.i64.wrap (costN y.R L k + y.R k * L k) = costN y.R L k + y.R k * L k := IntWalk.i64_in _ (by omega)
      subst ea
      clear hc hc2 eb z e1
      go_wp2_with fail
      go_region
      go_wp2_with fail
      go_roundw
      case rel => exact ⟨k + 1, by omega, rfl, by go_num, Lib.hid HB.out.drew⟩
      case measure => simp [intOf]; omega
    · obtain rfl : k = m := by omega
      go_wp2_with fail
      go_ret
      exact ⟨rfl, HBc.out.trans (HB.out.mono HBc.out.size)⟩
/-- two lists are alike -/
def intsB (n m : Nat) (A B : Nat → Int) : Bool := decide (n = m) && allB n fun i => decide (A i = B i)

set_option maxRecDepth 100000 in
set_option maxHeartbeats 4000000 in
theorem rints_any (aA aB : Option Addr) (n m cA cB : Nat) (A B : Nat → Int) (w : World) (hA : IntsAt w aA n A) (hB : IntsAt w aB m B) (hn : n ≤ 9223372036854775807) (hm : m ≤ 9223372036854775807) :
    Calls Try.prog 21 #[.slice aA n cA, .slice aB m cB] w fun e w' => e = .returned (.bool (intsB n m A B)) ∧ Below w.heap.size w w' := by
  by_cases hnm : n = m
  · subst hnm
    have HA := Lib.hid hA; have HB := Lib.hid hB
    clear hA hB
    have hd : ((n : Int) != (n : Int)) = false := by simp
    go_enter Try.func21, Try.ntmps21
    go_wp2_with fail
    clear hd
    go_loopw [5] (fun i wr => ∃ k : Nat, k ≤ n ∧ i = .int .i64 (k : Int) ∧ Hid (∀ j, j < k → A j = B j) ∧ Hid (Below w.heap.size w wr)) (fun i _ => n - (intOf i).toNat)
    case atStart => exact ⟨0, Nat.zero_le _, rfl, Lib.hid (fun j hj => absurd hj (Nat.not_lt_zero j)), Lib.hid (Below.refl _ _)⟩
    case round =>
      obtain ⟨k, hk, rfl, HE, HW⟩ := hrel
      by_cases hlt : k < n
      · rcases HA.out with h0 | ⟨b, off, ea, lb, hc⟩
        · omega
        rcases HB.out with h0 | ⟨b2, off2, eb, lb2, hc2⟩
        · omega
        have x1 := (HW.out.cell (p := ⟨b, off + k, none⟩) lb).trans (hc k hlt)
        have x2 := (HW.out.cell (p := ⟨b2, off2 + k, none⟩) lb2).trans (hc2 k hlt)
        have l1 : b < wr.heap.size := Nat.lt_of_lt_of_le lb HW.out.size
        have l2 : b2 < wr.heap.size := Nat.lt_of_lt_of_le lb2 HW.out.size
        have hk1 : (k : Int) < (n : Int) := by omega
        subst ea; subst eb
        clear hc hc2
        by_cases he : A k = B k
        · have hd : (A k != B k) = false := by simp [he]
          have HD := Lib.hid he; clear he
          go_wp2_with fail
          go_region
          go_wp2_with fail
          go_roundw
          case rel => exact ⟨k + 1, by omega, by go_num, Lib.hid (fun j hj => by rcases Nat.lt_succ_iff_lt_or_eq.1 hj with h | h; exact HE.out j h; rw [h]; exact HD.out), Lib.hid HW.out.drew⟩
          case measure => simp [intOf]; omega
        · have hd : (A k != B k) = true := by simp [he]
          have HD := Lib.hid (show intsB n n A B = false by unfold intsB; rw [allB_f hlt (decide_eq_false he)]; simp)
          clear he
          go_wp2_with fail
          go_region
          go_wp2_with fail
          go_ret
          exact ⟨by rw [HD.out]; rfl, HW.out.drew⟩
      · obtain rfl : k = n := by omega
        have HD := Lib.hid (show intsB k k A B = true by unfold intsB; simp [allB_t.2 (fun i hi => decide_eq_true (HE.out i hi))])
        go_wp2_with fail
        go_ret
        exact ⟨by rw [HD.out]; rfl, HW.out⟩
  · have hd : ((n : Int) != (m : Int)) = true := by simp; omega
    have HD := Lib.hid (show intsB n m A B = false by unfold intsB; simp [hnm])
    clear hA hB hnm
    go_enter Try.func21, Try.ntmps21
    go_wp2_with fail
    go_ret
    exact ⟨by rw [HD.out]; rfl, Below.refl _ _⟩
end Go.Proofs.Ytdcpgjepgajioaa
