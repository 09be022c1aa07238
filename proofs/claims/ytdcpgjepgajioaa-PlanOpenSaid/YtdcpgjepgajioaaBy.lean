/- Contract of the laws' slow. No conditions beyond each theorem's own. -/
import Derived.Test.YtdcpgjepgajioaaBf
set_option linter.unusedVariables false
set_option linter.unusedSimpArgs false
set_option linter.unusedSectionVars false
set_option linter.constructorNameAsVariable false
namespace Go.Proofs.Ytdcpgjepgajioaa
open Go.RowKit

attribute [local go_sem] gw_cell gw_frozen gw_size

attribute [local go_sem ↓] run_minI
/-- how many lots there are to try, counted up to one more than a bound -/
def slowN (M : Nat → Int) (most : Int) : Nat → Int
  | 0 => 1
  | k + 1 => if 0 ≤ M k ∧ M k ≤ 8 then min (slowN M most k * (M k + 1)) (most + 1) else slowN M most k
theorem slowN_rng {M : Nat → Int} {most : Int} (h : 0 ≤ most) : ∀ k, 1 ≤ slowN M most k ∧ slowN M most k ≤ most + 1
  | 0 => ⟨Int.le_refl _, by show (1 : Int) ≤ _; omega⟩
  | k + 1 => by
    obtain ⟨a, b⟩ := slowN_rng (M := M) h k
    unfold slowN
    split
    · rename_i hm
      have := Int.mul_le_mul a (show 1 ≤ M k + 1 by omega) (by omega) (by omega)
      omega
    · exact ⟨a, b⟩

set_option maxRecDepth 100000 in
set_option maxHeartbeats 4000000 in
theorem slow_any (y : Lyg) (most : Int) (w : World) (hY : y.In w) (hm : y.nM ≤ 9223372036854775807) (h0 : 0 ≤ most) (h1 : most ≤ 3000) :
    Calls Try.prog 16 #[y.val, .int .i64 most] w fun e w' => e = .returned (.bool (decide (most < slowN y.M most y.nM))) ∧ Below w.heap.size w w' := by
  unfold Lyg.val
  obtain ⟨W1, hW1⟩ : ∃ W1, w.alloc (.cells #[.slice y.aR y.nR y.cR, .slice y.aM y.nM y.cM, .int .i64 y.lot, .int .i64 y.room] 29) = W1 := ⟨_, rfl⟩
  have hBc : Below w.heap.size w W1 := by rw [← hW1]; exact below_alloc _ _
  have zc0 : W1.heap[w.heap.size]? = some (.cells #[.slice y.aR y.nR y.cR, .slice y.aM y.nM y.cM, .int .i64 y.lot, .int .i64 y.room] 29 (0, 0)) := by rw [← hW1]; exact alloc_at rfl
  have c00 : W1.cell? ⟨w.heap.size, 0, none⟩ = some (.slice y.aR y.nR y.cR) := cell_of_block zc0 0 (by simp)
  have c01 : W1.cell? ⟨w.heap.size, 1, none⟩ = some (.slice y.aM y.nM y.cM) := cell_of_block zc0 1 (by simp)
  have c02 : W1.cell? ⟨w.heap.size, 2, none⟩ = some (.int .i64 y.lot) := cell_of_block zc0 2 (by simp)
  have c03 : W1.cell? ⟨w.heap.size, 3, none⟩ = some (.int .i64 y.room) := cell_of_block zc0 3 (by simp)
  have lc0 := (Array.getElem?_eq_some_iff.1 zc0).1
  have Zc0 := Lib.hid zc0
  clear zc0
  have HBc := Lib.hid hBc; clear hBc
  have HWc := Lib.hid hW1; clear hW1
  have HM := Lib.hid (hY.iM.below HBc.out)
  clear hY c00 c01 c02 c03
  go_enter Try.func16, Try.ntmps16
  go_upto_region 1 with (fail)
  rw [HWc.out]
  go_wp2_with fail
  go_loopw [5, 6] (fun n i wr => ∃ k : Nat, k ≤ y.nM ∧ n = .int .i64 (slowN y.M most k) ∧ i = .int .i64 (k : Int) ∧ Hid (Below W1.heap.size W1 wr)) (fun _ i _ => y.nM - (intOf i).toNat)
  case atStart => exact ⟨0, Nat.zero_le _, rfl, rfl, Lib.hid (Below.refl _ _)⟩
  case round =>
    obtain ⟨k, hk, rfl, rfl, HB⟩ := hrel
    have z := (HB.out.block _ lc0).trans Zc0.out
    have x0 : wr.cell? ⟨w.heap.size, 1, none⟩ = some (.slice y.aM y.nM y.cM) := cell_of_block z 1 (by simp)
    have l0 := (Array.getElem?_eq_some_iff.1 z).1
    clear z
    by_cases hlt : k < y.nM
    · rcases HM.out with h0 | ⟨b, off, ea, lb, hc⟩
      · omega
      have x1 := (HB.out.cell (p := ⟨b, off + k, none⟩) lb).trans (hc k hlt)
      have l1 : b < wr.heap.size := Nat.lt_of_lt_of_le lb HB.out.size
      rw [ea] at x0
      obtain ⟨r0, r1⟩ := slowN_rng (M := y.M) h0 k
      obtain ⟨x, hx⟩ : ∃ x, y.M k = x := ⟨_, rfl⟩
      obtain ⟨s, hs⟩ : ∃ s, slowN y.M most k = s := ⟨_, rfl⟩
      rw [hs] at r0 r1 ⊢
      rw [hx] at x1
      have hk1 : (k : Int) < (y.nM : Int) := by omega
      clear hc ea
      by_cases g1 : 0 ≤ x
      · by_cases g2 : x ≤ 8
        · have d1 : decide (0 ≤ x) = true := decide_eq_true g1
          have d2 : decide (x ≤ 8) = true := decide_eq_true g2
          have p0 := Int.mul_nonneg (show 0 ≤ s by omega) (show 0 ≤ x + 1 by omega)
          have p1 := Int.mul_le_mul_of_nonneg_left (show x + 1 ≤ 9 by omega) (show 0 ≤ s by omega)
          have hw1 : IntKind.i64.wrap (s * (x + 1)) = s * (x + 1) := IntWalk.i64_in _ (by omega)
          have HS := Lib.hid (show slowN y.M most (k + 1) = min (s * (x + 1)) (most + 1) by show (if 0 ≤ y.M k ∧ y.M k ≤ 8 then _ else _) = _; rw [hx, if_pos ⟨g1, g2⟩, hs])
          clear hx hs
          go_wp2_with fail
          go_roundw
          case rel => exact ⟨k + 1, by omega, by rw [HS.out], by go_num, HB⟩
          case measure => simp [intOf]; omega
        · have d1 : decide (0 ≤ x) = true := decide_eq_true g1
          have d2 : decide (x ≤ 8) = false := decide_eq_false g2
          have HS := Lib.hid (show slowN y.M most (k + 1) = s by show (if 0 ≤ y.M k ∧ y.M k ≤ 8 then _ else _) = s; rw [hx, if_neg (fun h => g2 h.2), hs])
          clear hx hs g1 g2
          go_wp2_with fail
          go_roundw
          case rel => exact ⟨k + 1, by omega, by rw [HS.out], by go_num, HB⟩
          case measure => simp [intOf]; omega
      · have d1 : decide (0 ≤ x) = false := decide_eq_false g1
        have HS := Lib.hid (show slowN y.M most (k + 1) = s by show (if 0 ≤ y.M k ∧ y.M k ≤ 8 then _ else _) = s; rw [hx, if_neg (fun h => g1 h.1), hs])
        clear hx hs g1
        go_wp2_with fail
        go_roundw
        case rel => exact ⟨k + 1, by omega, by rw [HS.out], by go_num, HB⟩
        case measure => simp [intOf]; omega
    · obtain rfl : k = y.nM := by omega
      have HE := Lib.hid (slowN_rng (M := y.M) h0 y.nM)
      go_wp2_with fail
      go_ret
      exact ⟨rfl, HBc.out.trans (HB.out.mono HBc.out.size)⟩
end Go.Proofs.Ytdcpgjepgajioaa
