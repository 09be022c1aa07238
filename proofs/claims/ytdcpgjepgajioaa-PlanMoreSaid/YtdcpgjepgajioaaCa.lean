/- Contract of the reference's Lists. No conditions beyond each theorem's own. -/
import Derived.Test.YtdcpgjepgajioaaBw
import Derived.Test.YtdcpgjepgajioaaBl
set_option linter.unusedVariables false
set_option linter.unusedSimpArgs false
set_option linter.unusedSectionVars false
set_option linter.constructorNameAsVariable false
namespace Go.Proofs.Ytdcpgjepgajioaa
open Go.RowKit

attribute [local go_sem] gw_cell gw_frozen gw_size

/-- two lists of rows are alike -/
def rowsB (n m : Nat) (M N : Nat → List Int) : Bool := decide (n = m) && allB n fun t => intsB 32 32 (fun j => (M t).getD j 0) (fun j => (N t).getD j 0)

set_option maxRecDepth 100000 in
set_option maxHeartbeats 4000000 in
theorem rlists_any (aA aB : Option Addr) (n m cA cB : Nat) (M N : Nat → List Int) (w : World) (hA : RowsOf w aA n M) (hB : RowsOf w aB m N) (hn : n ≤ 9223372036854775807) (hm : m ≤ 9223372036854775807) :
    Calls Try.prog 15 #[.slice aA n cA, .slice aB m cB] w fun e w' => e = .returned (.bool (rowsB n m M N)) ∧ Below w.heap.size w w' := by
  by_cases hnm : n = m
  · subst hnm
    obtain ⟨rA, qA, hA1, hA2⟩ := hA
    obtain ⟨rB, qB, hB1, hB2⟩ := hB
    have HA := Lib.hid hA1; have HB := Lib.hid hB1; have HA2 := Lib.hid hA2; have HB2 := Lib.hid hB2
    clear hA1 hB1 hA2 hB2
    have hd : ((n : Int) != (n : Int)) = false := by simp
    go_enter Try.func15, Try.ntmps15
    go_wp2_with fail
    clear hd
    go_loopw [5] (fun i wr => ∃ k : Nat, k ≤ n ∧ i = .int .i64 (k : Int) ∧ Hid (∀ t, t < k → intsB 32 32 (fun j => (M t).getD j 0) (fun j => (N t).getD j 0) = true) ∧ Hid (Below w.heap.size w wr)) (fun i _ => n - (intOf i).toNat)
    case atStart => exact ⟨0, Nat.zero_le _, rfl, Lib.hid (fun j hj => absurd hj (Nat.not_lt_zero j)), Lib.hid (Below.refl _ _)⟩
    case round =>
      obtain ⟨k, hk, rfl, HE, HW⟩ := hrel
      by_cases hlt : k < n
      · rcases HA.out with h0 | ⟨b, off, ea, lb, hc⟩
        · omega
        rcases HB.out with h0 | ⟨b2, off2, eb, lb2, hc2⟩
        · omega
        have x1 := (HW.out.cell (p := ⟨b, off + k, none⟩) lb).trans (hc k hlt)
        have x2 := (HW.out.cell (p := ⟨b2, off2 + k, none⟩) lb2).trans (hc2 k hlt)
        dsimp only at x1 x2
        have l1 : b < wr.heap.size := Nat.lt_of_lt_of_le lb HW.out.size
        have l2 : b2 < wr.heap.size := Nat.lt_of_lt_of_le lb2 HW.out.size
        have hk1 : (k : Int) < (n : Int) := by omega
        have RI := Lib.hid (fun z => rints_any (rA k) (rB k) 32 32 (qA k) (qB k) (fun j => (M k).getD j 0) (fun j => (N k).getD j 0) (gw wr z) ((HA2.out k hlt).below (thru (below_gw wr z) HW.out)) ((HB2.out k hlt).below (thru (below_gw wr z) HW.out)) (by omega) (by omega))
        subst ea; subst eb
        clear hc hc2
        cases he : intsB 32 32 (fun j => (M k).getD j 0) (fun j => (N k).getD j 0) with
        | true =>
          rw [he] at RI
          have HD := Lib.hid he; clear he
          go_wp2_with fail
          refine wp_region_gw (by kernel_rfl) (by kernel_rfl) ?_
          repeat (go_big_quiet_step (exact Calls.gw_of (RI.out _)))
          refine wpQuiet_nil ?_
          rintro _ ⟨z, rfl⟩
          go_wp2_with fail
          go_roundw
          case rel => exact ⟨k + 1, by omega, by go_num, Lib.hid (fun j hj => by rcases Nat.lt_succ_iff_lt_or_eq.1 hj with h | h; exact HE.out j h; rw [h]; exact HD.out), Lib.hid (HW.out.gw z)⟩
          case measure => simp [intOf]; omega
        | false =>
          rw [he] at RI
          have HD := Lib.hid (show rowsB n n M N = false by unfold rowsB; rw [allB_f hlt he]; simp)
          clear he
          go_wp2_with fail
          refine wp_region_gw (by kernel_rfl) (by kernel_rfl) ?_
          repeat (go_big_quiet_step (exact Calls.gw_of (RI.out _)))
          refine wpQuiet_nil ?_
          rintro _ ⟨z, rfl⟩
          go_wp2_with fail
          go_ret
          exact ⟨by rw [HD.out]; rfl, HW.out.gw z⟩
      · obtain rfl : k = n := by omega
        have HD := Lib.hid (show rowsB k k M N = true by unfold rowsB; rw [allB_t.2 (fun i hi => HE.out i hi)]; simp)
        go_wp2_with fail
        go_ret
        exact ⟨by rw [HD.out]; rfl, HW.out⟩
  · have hd : ((n : Int) != (m : Int)) = true := by simp; omega
    have HD := Lib.hid (show rowsB n m M N = false by unfold rowsB; simp [hnm])
    clear hA hB hnm
    go_enter Try.func15, Try.ntmps15
    go_wp2_with fail
    go_ret
    exact ⟨by rw [HD.out]; rfl, Below.refl _ _⟩
end Go.Proofs.Ytdcpgjepgajioaa
