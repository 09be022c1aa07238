/- Contract of the laws' great. No conditions beyond each theorem's own. -/
import Derived.Test.YtdcpgjepgajioaaBb
set_option linter.unusedVariables false
set_option linter.unusedSimpArgs false
set_option linter.unusedSectionVars false
set_option linter.constructorNameAsVariable false
namespace Go.Proofs.Ytdcpgjepgajioaa
open Go.RowKit

attribute [local go_sem] gw_cell gw_frozen gw_size

/-- an outlook and what may be laid down are no more than a statement looks at -/
structure Small (o : Otl) (y : Lyg) (m : Nat) : Prop where
  s0 : o.nS ≤ 40
  s1 : o.nA ≤ 8
  s2 : o.nP ≤ 12
  s3 : y.nR ≤ 16
  s4 : y.nM ≤ 16
  s5 : m ≤ 16
  sP : ∀ i, i < o.nP → o.pN i ≤ 14 ∧ ∀ t, t < o.pN i → o.yN i t ≤ 8
def GreatEnd (E : Prop) (w : World) (e : Ending) (w' : World) : Prop := ∃ b : Bool, e = .returned (.bool b) ∧ (b = false → E) ∧ Below w.heap.size w w'

set_option maxRecDepth 100000 in
set_option maxHeartbeats 4000000 in
theorem great_any (o : Otl) (y : Lyg) (aL : Option Addr) (m cL : Nat) (w : World) (hO : o.In w) (hfo : o.Fits) (hfy : y.Fits) (hm : m ≤ 9223372036854775807) :
    Calls Try.prog 9 #[o.val, y.val, .slice aL m cL] w (GreatEnd (Small o y m) w) := by
  unfold Otl.val Lyg.val
  obtain ⟨W1, hW1⟩ : ∃ W1, (w.alloc (.cells #[.slice o.aS o.nS o.cS, .int .i64 o.kl, .int .i64 o.kh, .slice o.aA o.nA o.cA, .slice o.aP o.nP o.cP] 27)).alloc (.cells #[.slice y.aR y.nR y.cR, .slice y.aM y.nM y.cM, .int .i64 y.lot, .int .i64 y.room] 29) = W1 := ⟨_, rfl⟩
  have hBc : Below w.heap.size w W1 := by rw [← hW1]; exact (below_alloc _ _).alloc (by simp) _
  have zc0 : W1.heap[w.heap.size]? = some (.cells #[.slice o.aS o.nS o.cS, .int .i64 o.kl, .int .i64 o.kh, .slice o.aA o.nA o.cA, .slice o.aP o.nP o.cP] 27 (0, 0)) := by rw [← hW1]; exact alloc_keep (alloc_at rfl)
  have zc1 : W1.heap[w.heap.size + 1]? = some (.cells #[.slice y.aR y.nR y.cR, .slice y.aM y.nM y.cM, .int .i64 y.lot, .int .i64 y.room] 29 (0, 0)) := by rw [← hW1]; exact alloc_at (by simp)
  have c00 : W1.cell? ⟨w.heap.size, 0, none⟩ = some (.slice o.aS o.nS o.cS) := cell_of_block zc0 0 (by simp)
  have c01 : W1.cell? ⟨w.heap.size, 1, none⟩ = some (.int .i64 o.kl) := cell_of_block zc0 1 (by simp)
  have c02 : W1.cell? ⟨w.heap.size, 2, none⟩ = some (.int .i64 o.kh) := cell_of_block zc0 2 (by simp)
  have c03 : W1.cell? ⟨w.heap.size, 3, none⟩ = some (.slice o.aA o.nA o.cA) := cell_of_block zc0 3 (by simp)
  have c04 : W1.cell? ⟨w.heap.size, 4, none⟩ = some (.slice o.aP o.nP o.cP) := cell_of_block zc0 4 (by simp)
  have c10 : W1.cell? ⟨w.heap.size + 1, 0, none⟩ = some (.slice y.aR y.nR y.cR) := cell_of_block zc1 0 (by simp)
  have c11 : W1.cell? ⟨w.heap.size + 1, 1, none⟩ = some (.slice y.aM y.nM y.cM) := cell_of_block zc1 1 (by simp)
  have c12 : W1.cell? ⟨w.heap.size + 1, 2, none⟩ = some (.int .i64 y.lot) := cell_of_block zc1 2 (by simp)
  have c13 : W1.cell? ⟨w.heap.size + 1, 3, none⟩ = some (.int .i64 y.room) := cell_of_block zc1 3 (by simp)
  have lc0 := (Array.getElem?_eq_some_iff.1 zc0).1
  have lc1 := (Array.getElem?_eq_some_iff.1 zc1).1
  clear zc0 zc1
  have HBc := Lib.hid hBc; clear hBc
  have HWc := Lib.hid hW1; clear hW1
  have HO := Lib.hid (hO.below HBc.out)
  have b0 := hfo.nS
  have b1 := hfo.nA
  have b2 := hfo.nP
  have b3 := hfy.nR
  have b4 := hfy.nM
  have HPN := Lib.hid hfo.pN
  have HYN := Lib.hid hfo.yN
  clear hO hfo hfy
  by_cases g0 : o.nS ≤ 40
  rotate_left
  · have d0 : decide ((40 : Int) < (o.nS : Int)) = true := by simp <;> omega
    go_enter Try.func9, Try.ntmps9
    go_upto_region 1 with (fail)
    rw [HWc.out]
    go_wp2_with fail
    go_ret
    exact ⟨true, rfl, fun h => (by cases h), HBc.out⟩
  have d0 : decide ((40 : Int) < (o.nS : Int)) = false := by simp <;> omega
  by_cases g1 : o.nA ≤ 8
  rotate_left
  · have d1 : decide ((8 : Int) < (o.nA : Int)) = true := by simp <;> omega
    go_enter Try.func9, Try.ntmps9
    go_upto_region 1 with (fail)
    rw [HWc.out]
    go_wp2_with fail
    go_ret
    exact ⟨true, rfl, fun h => (by cases h), HBc.out⟩
  have d1 : decide ((8 : Int) < (o.nA : Int)) = false := by simp <;> omega
  by_cases g2 : o.nP ≤ 12
  rotate_left
  · have d2 : decide ((12 : Int) < (o.nP : Int)) = true := by simp <;> omega
    go_enter Try.func9, Try.ntmps9
    go_upto_region 1 with (fail)
    rw [HWc.out]
    go_wp2_with fail
    go_ret
    exact ⟨true, rfl, fun h => (by cases h), HBc.out⟩
  have d2 : decide ((12 : Int) < (o.nP : Int)) = false := by simp <;> omega
  by_cases g3 : y.nR ≤ 16
  rotate_left
  · have d3 : decide ((16 : Int) < (y.nR : Int)) = true := by simp <;> omega
    go_enter Try.func9, Try.ntmps9
    go_upto_region 1 with (fail)
    rw [HWc.out]
    go_wp2_with fail
    go_ret
    exact ⟨true, rfl, fun h => (by cases h), HBc.out⟩
  have d3 : decide ((16 : Int) < (y.nR : Int)) = false := by simp <;> omega
  by_cases g4 : y.nM ≤ 16
  rotate_left
  · have d4 : decide ((16 : Int) < (y.nM : Int)) = true := by simp <;> omega
    go_enter Try.func9, Try.ntmps9
    go_upto_region 1 with (fail)
    rw [HWc.out]
    go_wp2_with fail
    go_ret
    exact ⟨true, rfl, fun h => (by cases h), HBc.out⟩
  have d4 : decide ((16 : Int) < (y.nM : Int)) = false := by simp <;> omega
  by_cases g5 : m ≤ 16
  rotate_left
  · have d5 : decide ((16 : Int) < (m : Int)) = true := by simp <;> omega
    go_enter Try.func9, Try.ntmps9
    go_upto_region 1 with (fail)
    rw [HWc.out]
    go_wp2_with fail
    go_ret
    exact ⟨true, rfl, fun h => (by cases h), HBc.out⟩
  have d5 : decide ((16 : Int) < (m : Int)) = false := by simp <;> omega
  go_enter Try.func9, Try.ntmps9
  go_upto_region 1 with (fail)
  rw [HWc.out]
  go_wp2_with fail
  clear d0 d1 d2 d3 d4 d5
  go_loopw [7] (fun i wr => ∃ k : Nat, k ≤ o.nP ∧ i = .int .i64 (k : Int) ∧ Hid (∀ j, j < k → o.pN j ≤ 14 ∧ ∀ t, t < o.pN j → o.yN j t ≤ 8) ∧ W1 = wr) (fun i _ => o.nP - (intOf i).toNat)
  case atStart => exact ⟨0, Nat.zero_le _, rfl, Lib.hid (fun j hj => absurd hj (Nat.not_lt_zero j)), rfl⟩
  case round =>
    obtain ⟨k, hk, rfl, HS, hw⟩ := hrel
    subst hw
    by_cases hlt : k < o.nP
    · rcases HO.out.iP with h0 | ⟨bP, oP, eP, lP, hP⟩
      · omega
      have yP := hP k hlt
      dsimp only at yP
      rw [eP] at c04
      have hk1 : (k : Int) < (o.nP : Int) := by omega
      have bk := HPN.out k hlt
      clear hP eP
      by_cases g6 : o.pN k ≤ 14
      rotate_left
      · have d6 : decide ((14 : Int) < (o.pN k : Int)) = true := by simp <;> omega
        go_wp2_with fail
        go_ret
        exact ⟨true, rfl, fun h => (by cases h), HBc.out⟩
      have d6 : decide ((14 : Int) < (o.pN k : Int)) = false := by simp <;> omega
      go_wp2_with fail
      clear d6
      go_loopw [8] (fun i wr => ∃ t : Nat, t ≤ o.pN k ∧ i = .int .i64 (t : Int) ∧ Hid (∀ u, u < t → o.yN k u ≤ 8) ∧ W1 = wr) (fun i _ => o.pN k - (intOf i).toNat)
      case atStart => exact ⟨0, Nat.zero_le _, rfl, Lib.hid (fun j hj => absurd hj (Nat.not_lt_zero j)), rfl⟩
      case round =>
        obtain ⟨t, ht, rfl, HT, hw⟩ := hrel
        subst hw
        by_cases htl : t < o.pN k
        · rcases HO.out.iY k hlt with h0 | ⟨bY, oY, eY, lY, hY⟩
          · omega
          have yY := hY t htl
          dsimp only at yY
          rw [eY] at yP
          have ht1 : (t : Int) < (o.pN k : Int) := by omega
          have bt := HYN.out k hlt t htl
          clear hY eY
          by_cases g7 : o.yN k t ≤ 8
          · have d7 : decide ((8 : Int) < (o.yN k t : Int)) = false := by simp <;> omega
            go_wp2_with fail
            go_roundw
            case rel => exact ⟨t + 1, by omega, by go_num, Lib.hid (fun u hu => by rcases Nat.lt_succ_iff_lt_or_eq.1 hu with h | h; exact HT.out u h; rw [h]; exact g7), by trivial⟩
            case measure => simp [intOf]; omega
          · have d7 : decide ((8 : Int) < (o.yN k t : Int)) = true := by simp <;> omega
            go_wp2_with fail
            go_ret
            exact ⟨true, rfl, fun h => (by cases h), HBc.out⟩
        · have HQ := Lib.hid (show t = o.pN k by omega)
          go_wp2_with fail
          go_roundw
          case rel => exact ⟨k + 1, by omega, by go_num, Lib.hid (fun j hj => by rcases Nat.lt_succ_iff_lt_or_eq.1 hj with h | h; exact HS.out j h; rw [h]; exact ⟨g6, fun u hu => HT.out u (by have := HQ.out; omega)⟩), by trivial⟩
          case measure => simp [intOf]; omega
    · have HQ := Lib.hid (show k = o.nP by omega)
      go_wp2_with fail
      go_ret
      exact ⟨false, rfl, fun _ => ⟨g0, g1, g2, g3, g4, g5, fun i hi => HS.out i (by have := HQ.out; omega)⟩, HBc.out⟩
end Go.Proofs.Ytdcpgjepgajioaa
