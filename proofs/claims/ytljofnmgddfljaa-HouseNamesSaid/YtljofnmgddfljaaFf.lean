/- Contract of the law's great, with its exact answer. No conditions beyond each theorem's own. -/
import Derived.Test.YtljofnmgddfljaaCe
set_option linter.unusedVariables false
set_option linter.unusedSimpArgs false
set_option linter.unusedSectionVars false
set_option linter.constructorNameAsVariable false
namespace Go.Proofs.Ytljofnmgddfljaa
open Go.RowKit

attribute [local go_sem] gw_cell gw_frozen gw_size

/-- a day too far from a content's own one -/
def DayBad (x : Cont) (d : Int) : Prop := 0 < d ∧ d ≤ 65536 ∧ (600 < IntKind.i64.wrap (d - x.day) ∨ x.day < 0)
/-- no more than a statement looks at -/
def Small (C : Clim) (x : Cont) (k nd : Nat) (D : Nat → Int) : Prop := GoodC C k ∧ ∀ i, i < nd → ¬ DayBad x (D i)
open Classical in
noncomputable def greatB (C : Clim) (x : Cont) (k nd : Nat) (D : Nat → Int) : Bool := if Small C x k nd D then false else true
theorem greatB_false {C : Clim} {x : Cont} {k nd : Nat} {D : Nat → Int} (h : greatB C x k nd D = false) : Small C x k nd D := by
  unfold greatB at h
  split at h
  · assumption
  · cases h
theorem small_list {C : Clim} {k : Nat} (h : GoodC C k) (j : Nat) : listN C j ≤ 10 ∧ ∀ s, s < listN C j → (listR C j s).n ≤ 20 := by
  unfold listN listR
  split
  · exact ⟨h.na, h.la⟩
  · exact ⟨h.nw, h.lw⟩

set_option maxRecDepth 100000 in
set_option maxHeartbeats 4000000 in
theorem great_x (C : Clim) (x : Cont) (aS : Option Addr) (k cS : Nat) (aD : Option Addr) (nd cD : Nat) (D : Nat → Int) (w : World) (hC : C.In w) (hl : Lens C k) (hD : IntsAt w aD nd D) (hn : nd ≤ 100) :
    Calls Try.prog 15 #[.agg #[.int .i64 C.days, .slice C.aA C.nA C.cA, .slice C.aW C.nW C.cW], x.val, .slice aS k cS, .slice aD nd cD] w fun e w' => e = .returned (.bool (greatB C x k nd D)) ∧ Below w.heap.size w w' := by
  have GT : ¬ Small C x k nd D → greatB C x k nd D = true := fun h => by unfold greatB; rw [if_neg h]
  have GF : Small C x k nd D → greatB C x k nd D = false := fun h => by unfold greatB; rw [if_pos h]
  unfold Cont.val
  obtain ⟨gb, hgb⟩ : ∃ gb, greatB C x k nd D = gb := ⟨_, rfl⟩
  rw [hgb] at GT GF ⊢
  clear hgb
  have GT' := Lib.hid GT; clear GT
  have GF' := Lib.hid GF; clear GF
  obtain ⟨W1, hW1⟩ : ∃ W1, ((w.alloc (.cells #[.int .i64 C.days, .slice C.aA C.nA C.cA, .slice C.aW C.nW C.cW] 24)).alloc (.cells #[.int .i64 x.day, .int .i64 x.alo, .int .i64 x.ahi, .int .i64 x.wlo, .int .i64 x.whi] 28)).alloc (.cells #[.slice C.aA C.nA C.cA, .slice C.aW C.nW C.cW] 22) = W1 := ⟨_, rfl⟩
  have hBc : Below w.heap.size w W1 := by rw [← hW1]; exact ((below_alloc _ _).alloc (by simp) _).alloc (by simp <;> omega) _
  have zc0 : W1.heap[w.heap.size]? = some (.cells #[.int .i64 C.days, .slice C.aA C.nA C.cA, .slice C.aW C.nW C.cW] 24 (0, 0)) := by rw [← hW1]; exact alloc_keep (alloc_keep (alloc_at rfl))
  have zc1 : W1.heap[w.heap.size + 1]? = some (.cells #[.int .i64 x.day, .int .i64 x.alo, .int .i64 x.ahi, .int .i64 x.wlo, .int .i64 x.whi] 28 (0, 0)) := by rw [← hW1]; exact alloc_keep (alloc_at (by simp))
  have zc2 : W1.heap[w.heap.size + 1 + 1]? = some (.cells #[.slice C.aA C.nA C.cA, .slice C.aW C.nW C.cW] 22 (0, 0)) := by rw [← hW1]; exact alloc_at (by simp <;> omega)
  have c00 : W1.cell? ⟨w.heap.size, 0, none⟩ = some (.int .i64 C.days) := cell_of_block zc0 0 (by simp)
  have c01 : W1.cell? ⟨w.heap.size, 1, none⟩ = some (.slice C.aA C.nA C.cA) := cell_of_block zc0 1 (by simp)
  have c02 : W1.cell? ⟨w.heap.size, 2, none⟩ = some (.slice C.aW C.nW C.cW) := cell_of_block zc0 2 (by simp)
  have c10 : W1.cell? ⟨w.heap.size + 1, 0, none⟩ = some (.int .i64 x.day) := cell_of_block zc1 0 (by simp)
  have c11 : W1.cell? ⟨w.heap.size + 1, 1, none⟩ = some (.int .i64 x.alo) := cell_of_block zc1 1 (by simp)
  have c12 : W1.cell? ⟨w.heap.size + 1, 2, none⟩ = some (.int .i64 x.ahi) := cell_of_block zc1 2 (by simp)
  have c13 : W1.cell? ⟨w.heap.size + 1, 3, none⟩ = some (.int .i64 x.wlo) := cell_of_block zc1 3 (by simp)
  have c14 : W1.cell? ⟨w.heap.size + 1, 4, none⟩ = some (.int .i64 x.whi) := cell_of_block zc1 4 (by simp)
  have c20 : W1.cell? ⟨w.heap.size + 1 + 1, 0, none⟩ = some (.slice C.aA C.nA C.cA) := cell_of_block zc2 0 (by simp)
  have c21 : W1.cell? ⟨w.heap.size + 1 + 1, 1, none⟩ = some (.slice C.aW C.nW C.cW) := cell_of_block zc2 1 (by simp)
  have lc0 := (Array.getElem?_eq_some_iff.1 zc0).1
  have lc1 := (Array.getElem?_eq_some_iff.1 zc1).1
  have lc2 := (Array.getElem?_eq_some_iff.1 zc2).1
  have Zc0 := Lib.hid zc0
  have Zc1 := Lib.hid zc1
  have Zc2 := Lib.hid zc2
  clear zc0 zc1 zc2
  have HBc := Lib.hid hBc; clear hBc
  have HWc := Lib.hid hW1; clear hW1
  have HC := Lib.hid (hC.below HBc.out); clear hC
  have HD := Lib.hid (hD.below HBc.out); clear hD
  have HL := Lib.hid hl; clear hl
  have HST := Lib.hid HL.out.st
  have sk := HL.out.st
  go_enter Try.func15, Try.ntmps15
  go_wp2_with fail
  rw [HWc.out]
  have z2 := Zc2.out
  go_loop [21] (fun t => ∃ j : Nat, j ≤ 2 ∧ t = .int .i64 j ∧ Hid (∀ i, i < j → listN C i ≤ 10 ∧ ∀ s, s < listN C i → (listR C i s).n ≤ 20)) (fun t => 2 - (intOf t).toNat)
  case atStart => exact ⟨0, by omega, rfl, Lib.hid (fun i hi => by omega)⟩
  case round =>
    obtain ⟨j, hj, rfl, hal⟩ := hrel
    by_cases hlt : j < 2
    · have x1 : W1.cell? ⟨w.heap.size + 1 + 1, j, none⟩ = some (.slice (listA C j) (listN C j) (listC C j)) := by
        match j, hlt with
        | 0, _ => exact cell_of_block z2 0 (by simp)
        | 1, _ => exact cell_of_block z2 1 (by simp)
      have lr := list_rows HC.out j
      obtain ⟨ln, lm⟩ := list_lens HL.out j
      have LN := Lib.hid lm; clear lm z2 c20 c21
      by_cases h10 : 10 < listN C j
      · have NS := Lib.hid (GT'.out (fun h => by have := (small_list h.1 j).1; omega))
        generalize listA C j = a at *
        generalize listN C j = n at *
        generalize listC C j = c at *
        generalize listR C j = R at *
        have LR := Lib.hid lr; clear lr
        go_wp2_with fail
        go_ret
        exact ⟨ret_bool NS.out.symm, HBc.out⟩
      · have H10 := Lib.hid (show listN C j ≤ 10 by omega)
        rcases lr with h0 | ⟨b, off, ea, lb, hc⟩
        · have AL := Lib.hid (all_succ (P := fun i => listN C i ≤ 10 ∧ ∀ s, s < listN C i → (listR C i s).n ≤ 20) hal.out ⟨H10.out, fun s hs => by omega⟩)
          rw [h0] at x1
          clear ln LN h0 H10 h10
          go_wp2_with fail
          go_loop [30] (fun t => t = .int .i64 0) (fun _ => 0)
          case atStart => rfl
          case round =>
            obtain rfl := hrel
            go_wp2_with fail
            go_round
            case rel => exact ⟨j + 1, by omega, by go_num, AL⟩
            case measure => simp [intOf]; omega
        · rw [ea] at x1
          have HCC := Lib.hid hc; clear hc ea
          obtain ⟨n, hn'⟩ : ∃ n, listN C j = n := ⟨_, rfl⟩
          rw [hn'] at x1 ln LN h10 H10 HCC
          have HN := Lib.hid hn'; clear hn'
          go_wp2_with fail
          go_loop [30] (fun t => ∃ s : Nat, s ≤ n ∧ t = .int .i64 s ∧ Hid (∀ i, i < s → (listR C j i).n ≤ 20)) (fun t => n - (intOf t).toNat)
          case atStart => exact ⟨0, Nat.zero_le _, rfl, Lib.hid (fun i hi => by omega)⟩
          case round =>
            obtain ⟨s, hs, rfl, hal2⟩ := hrel
            by_cases hls : s < n
            · obtain ⟨y1, y2⟩ := HCC.out s hls
              have yl := LN.out s hls
              clear y2
              by_cases h20 : 20 < (listR C j s).n
              · have NS := Lib.hid (GT'.out (fun h => by have := (small_list h.1 j).2 s (by rw [HN.out]; exact hls); omega))
                generalize (listR C j s).a = ra at *
                generalize (listR C j s).n = rn at *
                generalize (listR C j s).c = rc at *
                go_wp2_with fail
                go_ret
                exact ⟨ret_bool NS.out.symm, HBc.out⟩
              · have NX := Lib.hid (all_succ (P := fun i => (listR C j i).n ≤ 20) hal2.out (by omega))
                go_wp2_with fail
                go_round
                case rel => exact ⟨s + 1, by omega, by go_num, NX⟩
                case measure => simp [intOf]; omega
            · obtain rfl : s = n := by omega
              have AL := Lib.hid (all_succ (P := fun i => listN C i ≤ 10 ∧ ∀ s, s < listN C i → (listR C i s).n ≤ 20) hal.out ⟨by rw [HN.out]; exact H10.out, fun t ht => hal2.out t (by rw [HN.out] at ht; exact ht)⟩)
              go_wp2_with fail
              go_round
              case rel => exact ⟨j + 1, by omega, by go_num, AL⟩
              case measure => simp [intOf]; omega
    · obtain rfl : j = 2 := by omega
      obtain ⟨a0, a1⟩ := hal.out 0 (by omega)
      obtain ⟨b0, b1⟩ := hal.out 1 (by omega)
      have GD := Lib.hid (fun hk : k ≤ 70 => (⟨a0, b0, a1, b1, hk⟩ : GoodC C k))
      clear a0 a1 b0 b1 z2 c20 c21
      have x0 := c10
      rcases HD.out with h0 | ⟨b, off, rfl, lb, hc⟩
      · subst h0
        go_wp2_with fail
        go_loop [41] (fun t => t = .int .i64 0) (fun _ => 0)
        case atStart => rfl
        case round =>
          obtain rfl := hrel
          by_cases h70 : 70 < k
          · have NS := Lib.hid (GT'.out (fun h => by have := h.1.st; omega))
            go_wp2_with fail
            go_ret
            exact ⟨by rw [NS.out]; simp; omega, HBc.out⟩
          · have NS := Lib.hid (GF'.out ⟨GD.out (by omega), fun i hi => by omega⟩)
            go_wp2_with fail
            go_ret
            exact ⟨by rw [NS.out]; simp; omega, HBc.out⟩
      · have HCC := Lib.hid hc; clear hc
        go_wp2_with fail
        go_loop [41] (fun t => ∃ i : Nat, i ≤ nd ∧ t = .int .i64 i ∧ Hid (∀ s, s < i → ¬ DayBad x (D s))) (fun t => nd - (intOf t).toNat)
        case atStart => exact ⟨0, Nat.zero_le _, rfl, Lib.hid (fun s hs => by omega)⟩
        case round =>
          obtain ⟨i, hi, rfl, hal3⟩ := hrel
          by_cases hli : i < nd
          · have y := HCC.out i hli
            obtain ⟨u, hu⟩ : ∃ u, IntKind.i64.wrap (D i - x.day) = u := ⟨_, rfl⟩
            by_cases p1 : 0 < D i
            · by_cases p2 : D i ≤ 65536
              · by_cases p3 : 600 < u
                · have NS := Lib.hid (GT'.out (fun h => h.2 i hli (show DayBad x (D i) from ⟨p1, p2, .inl (by rw [hu]; exact p3)⟩)))
                  go_wp2_with fail
                  go_ret
                  exact ⟨ret_bool NS.out.symm, HBc.out⟩
                · by_cases p4 : x.day < 0
                  · have NS := Lib.hid (GT'.out (fun h => h.2 i hli (show DayBad x (D i) from ⟨p1, p2, .inr p4⟩)))
                    go_wp2_with fail
                    go_ret
                    exact ⟨ret_bool NS.out.symm, HBc.out⟩
                  · have NX := Lib.hid (all_succ (P := fun s => ¬ DayBad x (D s)) hal3.out (fun h => by have := h.2.2; rw [hu] at this; omega))
                    go_wp2_with fail
                    go_round
                    case rel => exact ⟨i + 1, by omega, by go_num, NX⟩
                    case measure => simp [intOf]; omega
              · have NX := Lib.hid (all_succ (P := fun s => ¬ DayBad x (D s)) hal3.out (fun h => p2 h.2.1))
                go_wp2_with fail
                go_round
                case rel => exact ⟨i + 1, by omega, by go_num, NX⟩
                case measure => simp [intOf]; omega
            · have NX := Lib.hid (all_succ (P := fun s => ¬ DayBad x (D s)) hal3.out (fun h => p1 h.1))
              go_wp2_with fail
              go_round
              case rel => exact ⟨i + 1, by omega, by go_num, NX⟩
              case measure => simp [intOf]; omega
          · obtain rfl : i = nd := by omega
            by_cases h70 : 70 < k
            · have NS := Lib.hid (GT'.out (fun h => by have := h.1.st; omega))
              go_wp2_with fail
              go_ret
              exact ⟨by rw [NS.out]; simp; omega, HBc.out⟩
            · have NS := Lib.hid (GF'.out ⟨GD.out (by omega), hal3.out⟩)
              go_wp2_with fail
              go_ret
              exact ⟨by rw [NS.out]; simp; omega, HBc.out⟩
end Go.Proofs.Ytljofnmgddfljaa
