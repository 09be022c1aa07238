/- Contract of great: where it is false the table is small. No conditions beyond each theorem's own. -/
import Derived.Test.YtohcopdfdmjhnaaTr
import Derived.Test.YtohcopdfdmjhnaaAl
set_option linter.unusedVariables false
set_option linter.unusedSimpArgs false
set_option linter.unusedSectionVars false
set_option linter.constructorNameAsVariable false
namespace Go.Proofs.Ytohcopdfdmjhnaa.L1
open Go.RowKit
open Go.Proofs.Ytohcopdfdmjhnaa

attribute [local go_sem] gw_cell gw_frozen gw_size

structure Tab.Small (t : Tab) : Prop where
  nT : t.nT ≤ 40
  nS : t.nS ≤ 40
  H : t.H.n ≤ 40
  R : t.R.n ≤ 40
  HR : ∀ i, i < t.H.n → t.H.rN i ≤ 40
  RR : ∀ i, i < t.R.n → t.R.rN i ≤ 40
theorem Tab.Small.fits {t : Tab} (h : t.Small) : t.Fits := ⟨by have := h.nT; omega, by have := h.nS; omega, ⟨by have := h.H; omega, fun i hi => by have := h.HR i hi; omega⟩, ⟨by have := h.R; omega, fun i hi => by have := h.RR i hi; omega⟩⟩

def GreatEnd (E : Prop) (w : World) (e : Ending) (w' : World) : Prop := ∃ b : Bool, e = .returned (.bool b) ∧ (b = false → E) ∧ Below w.heap.size w w'
set_option maxRecDepth 100000 in
set_option maxHeartbeats 4000000 in
theorem great_any (t : Tab) (w : World) (hI : t.In w) (hL : t.Lens) :
    Calls Try.prog 14 #[t.val] w (GreatEnd t.Small w) := by
  obtain ⟨W1, hW1⟩ : ∃ W1, w.alloc (.cells #[.slice t.aT t.nT t.cT, .slice t.aS t.nS t.cS, .slice t.H.a t.H.n t.H.c, .slice t.R.a t.R.n t.R.c] 25) = W1 := ⟨_, rfl⟩
  have hBc : Below w.heap.size w W1 := by rw [← hW1]; exact below_alloc _ _
  have zc0 : W1.heap[w.heap.size]? = some (.cells #[.slice t.aT t.nT t.cT, .slice t.aS t.nS t.cS, .slice t.H.a t.H.n t.H.c, .slice t.R.a t.R.n t.R.c] 25 (0, 0)) := by rw [← hW1]; exact alloc_at rfl
  have c00 : W1.cell? ⟨w.heap.size, 0, none⟩ = some (.slice t.aT t.nT t.cT) := cell_of_block zc0 0 (by simp)
  have c01 : W1.cell? ⟨w.heap.size, 1, none⟩ = some (.slice t.aS t.nS t.cS) := cell_of_block zc0 1 (by simp)
  have c02 : W1.cell? ⟨w.heap.size, 2, none⟩ = some (.slice t.H.a t.H.n t.H.c) := cell_of_block zc0 2 (by simp)
  have c03 : W1.cell? ⟨w.heap.size, 3, none⟩ = some (.slice t.R.a t.R.n t.R.c) := cell_of_block zc0 3 (by simp)
  have lc0 := (Array.getElem?_eq_some_iff.1 zc0).1
  clear zc0
  have HBc := Lib.hid hBc; clear hBc
  have HWc := Lib.hid hW1; clear hW1
  have I1 := hI.below HBc.out
  have SH := Lib.hid I1.iH.cells
  have SR := Lib.hid I1.iR.cells
  have h1 := hL.H; have h2 := hL.R; have h3 := hL.nT; have h4 := hL.nS
  have HHR := Lib.hid hL.HR; have HRR := Lib.hid hL.RR
  clear hI hL I1
  have FIN := Lib.hid (fun (q1 : t.nT ≤ 40) (q2 : t.nS ≤ 40) (q3 : t.H.n ≤ 40) (q4 : t.R.n ≤ 40) (q5 : ∀ i, i < t.H.n → t.H.rN i ≤ 40) (q6 : ∀ i, i < t.R.n → t.R.rN i ≤ 40) => (⟨q1, q2, q3, q4, q5, q6⟩ : t.Small))
  unfold Tab.val
  obtain ⟨aT, nT, cT, T, aS, nS, cS, S, ⟨aH, nH, cH, rA, rN, rC, M⟩, ⟨aR, nR, cR, qA, qN, qC, Q⟩⟩ := t
  dsimp only [Rows.row] at *
  obtain ⟨E, hE⟩ : ∃ E : Prop, Tab.Small ⟨aT, nT, cT, T, aS, nS, cS, S, ⟨aH, nH, cH, rA, rN, rC, M⟩, ⟨aR, nR, cR, qA, qN, qC, Q⟩⟩ = E := ⟨_, rfl⟩
  rw [hE] at FIN ⊢
  clear hE
  go_enter Try.func14, Try.ntmps14
  go_upto_region 1 with (fail)
  rw [HWc.out]
  go_wp2_with fail
  go_loopw [3] (fun t wr => ∃ k : Nat, k ≤ nH ∧ k ≤ 41 ∧ t = .int .i64 k ∧ Hid (∀ i, i < k → rN i ≤ 40) ∧ wr = W1) (fun t _ => nH - (intOf t).toNat)
  case atStart => exact ⟨0, Nat.zero_le _, by omega, rfl, Lib.hid (fun i hi => by omega), rfl⟩
  case round =>
    obtain ⟨k, hk, hk41, rfl, hall, hwr⟩ := hrel
    obtain rfl : W1 = wr := hwr.symm
    by_cases hlt : k < nH
    · have hi : (k : Int) < (nH : Int) := by omega
      by_cases h41 : k < 41
      · have hj : (k : Int) < 41 := by omega
        have lr := HHR.out k hlt
        rcases SH.out with h0 | ⟨b, off, rfl, lb0, hc⟩
        · omega
        have x1 := hc k hlt
        dsimp only [Rows.row] at x1
        try dsimp only at lr
        clear hc
        by_cases hg : rN k ≤ 40
        · have hgi : ¬ (40 : Int) < (rN k : Int) := by omega
          have HG := Lib.hid hg
          go_wp2_with fail
          go_roundw
          case rel => exact ⟨k + 1, by omega, by omega, by go_num, Lib.hid (all_succ (P := fun i => rN i ≤ 40) hall.out HG.out), (by first | rfl | trivial)⟩
          case measure => simp [intOf]; omega
        · have hgi : (40 : Int) < (rN k : Int) := by omega
          go_wp2_with fail
          go_ret
          exact ⟨true, rfl, fun h => (by cases h), HBc.out⟩
      · have hj : ¬ (k : Int) < 41 := by omega
        have D1 := Lib.hid (show ¬ nH ≤ 40 by omega)
        clear hall
        go_wp2_with fail
        go_loopw [4] (fun t wr => ∃ k : Nat, k ≤ nR ∧ k ≤ 41 ∧ t = .int .i64 k ∧ Hid (∀ i, i < k → qN i ≤ 40) ∧ wr = W1) (fun t _ => nR - (intOf t).toNat)
        case atStart => exact ⟨0, Nat.zero_le _, by omega, rfl, Lib.hid (fun i hi => by omega), rfl⟩
        case round =>
          obtain ⟨k, hk, hk41, rfl, hall, hwr⟩ := hrel
          obtain rfl : W1 = wr := hwr.symm
          by_cases hlt : k < nR
          · have hi : (k : Int) < (nR : Int) := by omega
            by_cases h41 : k < 41
            · have hj : (k : Int) < 41 := by omega
              have lr := HRR.out k hlt
              rcases SR.out with h0 | ⟨b, off, rfl, lb0, hc⟩
              · omega
              have x1 := hc k hlt
              dsimp only [Rows.row] at x1
              try dsimp only at lr
              clear hc
              by_cases hg : qN k ≤ 40
              · have hgi : ¬ (40 : Int) < (qN k : Int) := by omega
                have HG := Lib.hid hg
                go_wp2_with fail
                go_roundw
                case rel => exact ⟨k + 1, by omega, by omega, by go_num, Lib.hid (all_succ (P := fun i => qN i ≤ 40) hall.out HG.out), (by first | rfl | trivial)⟩
                case measure => simp [intOf]; omega
              · have hgi : (40 : Int) < (qN k : Int) := by omega
                go_wp2_with fail
                go_ret
                exact ⟨true, rfl, fun h => (by cases h), HBc.out⟩
            · have hj : ¬ (k : Int) < 41 := by omega
              have D2 := Lib.hid (show ¬ nR ≤ 40 by omega)
              clear hall
              by_cases g1 : nT ≤ 40
              · have i1 : decide ((40 : Int) < (nT : Int)) = false := by simp; omega
                by_cases g2 : nS ≤ 40
                · have i2 : decide ((40 : Int) < (nS : Int)) = false := by simp; omega
                  by_cases g3 : nH ≤ 40
                  · exact absurd g3 D1.out
                  · have i3 : decide ((40 : Int) < (nH : Int)) = true := by simp; omega
                    go_wp2_with fail
                    go_ret
                    exact ⟨true, rfl, fun h => (by cases h), HBc.out⟩
                · have i2 : decide ((40 : Int) < (nS : Int)) = true := by simp; omega
                  go_wp2_with fail
                  go_ret
                  exact ⟨true, rfl, fun h => (by cases h), HBc.out⟩
              · have i1 : decide ((40 : Int) < (nT : Int)) = true := by simp; omega
                go_wp2_with fail
                go_ret
                exact ⟨true, rfl, fun h => (by cases h), HBc.out⟩
          · have hi : ¬ (k : Int) < (nR : Int) := by omega
            obtain rfl : nR = k := by omega
            have hall2 := hall
            clear hall
            by_cases g1 : nT ≤ 40
            · have i1 : decide ((40 : Int) < (nT : Int)) = false := by simp; omega
              by_cases g2 : nS ≤ 40
              · have i2 : decide ((40 : Int) < (nS : Int)) = false := by simp; omega
                by_cases g3 : nH ≤ 40
                · exact absurd g3 D1.out
                · have i3 : decide ((40 : Int) < (nH : Int)) = true := by simp; omega
                  go_wp2_with fail
                  go_ret
                  exact ⟨true, rfl, fun h => (by cases h), HBc.out⟩
              · have i2 : decide ((40 : Int) < (nS : Int)) = true := by simp; omega
                go_wp2_with fail
                go_ret
                exact ⟨true, rfl, fun h => (by cases h), HBc.out⟩
            · have i1 : decide ((40 : Int) < (nT : Int)) = true := by simp; omega
              go_wp2_with fail
              go_ret
              exact ⟨true, rfl, fun h => (by cases h), HBc.out⟩
    · have hi : ¬ (k : Int) < (nH : Int) := by omega
      obtain rfl : nH = k := by omega
      have hall1 := hall
      clear hall
      go_wp2_with fail
      go_loopw [4] (fun t wr => ∃ k : Nat, k ≤ nR ∧ k ≤ 41 ∧ t = .int .i64 k ∧ Hid (∀ i, i < k → qN i ≤ 40) ∧ wr = W1) (fun t _ => nR - (intOf t).toNat)
      case atStart => exact ⟨0, Nat.zero_le _, by omega, rfl, Lib.hid (fun i hi => by omega), rfl⟩
      case round =>
        obtain ⟨k, hk, hk41, rfl, hall, hwr⟩ := hrel
        obtain rfl : W1 = wr := hwr.symm
        by_cases hlt : k < nR
        · have hi : (k : Int) < (nR : Int) := by omega
          by_cases h41 : k < 41
          · have hj : (k : Int) < 41 := by omega
            have lr := HRR.out k hlt
            rcases SR.out with h0 | ⟨b, off, rfl, lb0, hc⟩
            · omega
            have x1 := hc k hlt
            dsimp only [Rows.row] at x1
            try dsimp only at lr
            clear hc
            by_cases hg : qN k ≤ 40
            · have hgi : ¬ (40 : Int) < (qN k : Int) := by omega
              have HG := Lib.hid hg
              go_wp2_with fail
              go_roundw
              case rel => exact ⟨k + 1, by omega, by omega, by go_num, Lib.hid (all_succ (P := fun i => qN i ≤ 40) hall.out HG.out), (by first | rfl | trivial)⟩
              case measure => simp [intOf]; omega
            · have hgi : (40 : Int) < (qN k : Int) := by omega
              go_wp2_with fail
              go_ret
              exact ⟨true, rfl, fun h => (by cases h), HBc.out⟩
          · have hj : ¬ (k : Int) < 41 := by omega
            have D2 := Lib.hid (show ¬ nR ≤ 40 by omega)
            clear hall
            by_cases g1 : nT ≤ 40
            · have i1 : decide ((40 : Int) < (nT : Int)) = false := by simp; omega
              by_cases g2 : nS ≤ 40
              · have i2 : decide ((40 : Int) < (nS : Int)) = false := by simp; omega
                by_cases g3 : nH ≤ 40
                · have i3 : decide ((40 : Int) < (nH : Int)) = false := by simp; omega
                  by_cases g4 : nR ≤ 40
                  · exact absurd g4 D2.out
                  · have i4 : decide ((40 : Int) < (nR : Int)) = true := by simp; omega
                    go_wp2_with fail
                    go_ret
                    exact ⟨true, rfl, fun h => (by cases h), HBc.out⟩
                · have i3 : decide ((40 : Int) < (nH : Int)) = true := by simp; omega
                  go_wp2_with fail
                  go_ret
                  exact ⟨true, rfl, fun h => (by cases h), HBc.out⟩
              · have i2 : decide ((40 : Int) < (nS : Int)) = true := by simp; omega
                go_wp2_with fail
                go_ret
                exact ⟨true, rfl, fun h => (by cases h), HBc.out⟩
            · have i1 : decide ((40 : Int) < (nT : Int)) = true := by simp; omega
              go_wp2_with fail
              go_ret
              exact ⟨true, rfl, fun h => (by cases h), HBc.out⟩
        · have hi : ¬ (k : Int) < (nR : Int) := by omega
          obtain rfl : nR = k := by omega
          have hall2 := hall
          clear hall
          by_cases g1 : nT ≤ 40
          · have i1 : decide ((40 : Int) < (nT : Int)) = false := by simp; omega
            by_cases g2 : nS ≤ 40
            · have i2 : decide ((40 : Int) < (nS : Int)) = false := by simp; omega
              by_cases g3 : nH ≤ 40
              · have i3 : decide ((40 : Int) < (nH : Int)) = false := by simp; omega
                by_cases g4 : nR ≤ 40
                · have i4 : decide ((40 : Int) < (nR : Int)) = false := by simp; omega
                  have OK := Lib.hid (show E from FIN.out g1 g2 g3 g4 hall1.out hall2.out)
                  clear g1 g2 g3 g4
                  go_wp2_with fail
                  go_ret
                  exact ⟨false, rfl, fun _ => OK.out, HBc.out⟩
                · have i4 : decide ((40 : Int) < (nR : Int)) = true := by simp; omega
                  go_wp2_with fail
                  go_ret
                  exact ⟨true, rfl, fun h => (by cases h), HBc.out⟩
              · have i3 : decide ((40 : Int) < (nH : Int)) = true := by simp; omega
                go_wp2_with fail
                go_ret
                exact ⟨true, rfl, fun h => (by cases h), HBc.out⟩
            · have i2 : decide ((40 : Int) < (nS : Int)) = true := by simp; omega
              go_wp2_with fail
              go_ret
              exact ⟨true, rfl, fun h => (by cases h), HBc.out⟩
          · have i1 : decide ((40 : Int) < (nT : Int)) = true := by simp; omega
            go_wp2_with fail
            go_ret
            exact ⟨true, rfl, fun h => (by cases h), HBc.out⟩
end Go.Proofs.Ytohcopdfdmjhnaa.L1
