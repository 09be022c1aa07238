/- Contract of the laws' before. No conditions beyond each theorem's own. -/
import Derived.Test.YtdcpgjepgajioaaBb
set_option linter.unusedVariables false
set_option linter.unusedSimpArgs false
set_option linter.unusedSectionVars false
set_option linter.constructorNameAsVariable false
namespace Go.Proofs.Ytdcpgjepgajioaa
open Go.RowKit

attribute [local go_sem] gw_cell gw_frozen gw_size

/-- does a list come before another one in lexicographic order? -/
def befB (A B : Nat → Int) : Nat → Nat → Bool
  | 0, _ => false
  | k + 1, i => if A i = B i then befB A B k (i + 1) else decide (A i < B i)

set_option maxRecDepth 100000 in
set_option maxHeartbeats 4000000 in
theorem before_any (aA aB : Option Addr) (n m cA cB : Nat) (A B : Nat → Int) (w : World) (hA : IntsAt w aA n A) (hB : IntsAt w aB m B) (hn : n ≤ m) (hm : m ≤ 9223372036854775807) :
    Calls Try.prog 28 #[.slice aA n cA, .slice aB m cB] w fun e w' => e = .returned (.bool (befB A B n 0)) ∧ Below w.heap.size w w' := by
  have HA := Lib.hid hA; have HB := Lib.hid hB
  clear hA hB
  go_enter Try.func28, Try.ntmps28
  go_wp2_with fail
  go_loopw [5] (fun i wr => ∃ k : Nat, k ≤ n ∧ i = .int .i64 (k : Int) ∧ Hid (befB A B n 0 = befB A B (n - k) k) ∧ Hid (Below w.heap.size w wr)) (fun i _ => n - (intOf i).toNat)
  case atStart => exact ⟨0, Nat.zero_le _, rfl, Lib.hid rfl, Lib.hid (Below.refl _ _)⟩
  case round =>
    obtain ⟨k, hk, rfl, HE, HW⟩ := hrel
    by_cases hlt : k < n
    · rcases HA.out with h0 | ⟨b, off, ea, lb, hc⟩
      · omega
      rcases HB.out with h0 | ⟨b2, off2, eb, lb2, hc2⟩
      · omega
      have x1 := (HW.out.cell (p := ⟨b, off + k, none⟩) lb).trans (hc k hlt)
      have x2 := (HW.out.cell (p := ⟨b2, off2 + k, none⟩) lb2).trans (hc2 k (by omega))
      have l1 : b < wr.heap.size := Nat.lt_of_lt_of_le lb HW.out.size
      have l2 : b2 < wr.heap.size := Nat.lt_of_lt_of_le lb2 HW.out.size
      have hk1 : (k : Int) < (n : Int) := by omega
      have hk2 : (k : Int) < (m : Int) := by omega
      have HF := Lib.hid (show befB A B (n - k) k = if A k = B k then befB A B (n - (k + 1)) (k + 1) else decide (A k < B k) by rw [show n - k = (n - (k + 1)) + 1 by omega]; rfl)
      subst ea; subst eb
      clear hc hc2
      by_cases he : A k = B k
      · have hd : (A k != B k) = false := by simp [he]
        have HD := Lib.hid he; clear he
        go_wp2_with fail
        go_region
        go_wp2_with fail
        go_roundw
        case rel => exact ⟨k + 1, by omega, by go_num, Lib.hid (by rw [HE.out, HF.out, if_pos HD.out]), Lib.hid HW.out.drew⟩
        case measure => simp [intOf]; omega
      · have hd : (A k != B k) = true := by simp [he]
        have HD := Lib.hid (show befB A B n 0 = decide (A k < B k) by rw [HE.out, HF.out, if_neg he])
        clear he
        go_wp2_with fail
        go_region
        go_wp2_with fail
        go_region
        go_wp2_with fail
        go_ret
        exact ⟨by rw [HD.out]; rfl, HW.out.drew.drew⟩
    · obtain rfl : k = n := by omega
      have HD := Lib.hid (show befB A B k 0 = false by rw [HE.out, Nat.sub_self]; rfl)
      go_wp2_with fail
      go_ret
      exact ⟨by rw [HD.out]; rfl, HW.out⟩
end Go.Proofs.Ytdcpgjepgajioaa
