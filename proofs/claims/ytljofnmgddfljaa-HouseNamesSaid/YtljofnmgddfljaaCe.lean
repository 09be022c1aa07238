/- Contract of great. No conditions beyond each theorem's own. -/
import Derived.Test.YtljofnmgddfljaaCd
set_option linter.unusedVariables false
set_option linter.unusedSimpArgs false
set_option linter.unusedSectionVars false
set_option linter.constructorNameAsVariable false
namespace Go.Proofs.Ytljofnmgddfljaa
open Go.RowKit

attribute [local go_sem] gw_cell gw_frozen gw_size

theorem ints_one {W : World} {b : Nat} {d : Int} (hb : b < W.heap.size) (h : W.cell? ⟨b, 0, none⟩ = some (.int .i64 d)) : IntsAt W (some ⟨b, 0, none⟩) 1 (fun _ => d) :=
  .inr ⟨b, 0, rfl, hb, fun i hi => by
    obtain rfl : i = 0 := by omega
    exact h⟩
theorem ints_two {W : World} {b : Nat} {d e : Int} (hb : b < W.heap.size) (h : W.cell? ⟨b, 0, none⟩ = some (.int .i64 d)) (h2 : W.cell? ⟨b, 1, none⟩ = some (.int .i64 e)) : IntsAt W (some ⟨b, 0, none⟩) 2 (fun i => if i = 0 then d else e) :=
  .inr ⟨b, 0, rfl, hb, fun i hi => by
    match i, hi with
    | 0, _ => exact h
    | 1, _ => exact h2⟩
/-- what is not too great -/
structure GoodC (C : Clim) (k : Nat) : Prop where
  na : C.nA ≤ 10
  nw : C.nW ≤ 10
  la : ∀ i, i < C.nA → (C.RA i).n ≤ 20
  lw : ∀ i, i < C.nW → (C.RW i).n ≤ 20
  st : k ≤ 70
theorem GoodC.fits {C : Clim} {k : Nat} (h : GoodC C k) : C.Fits := ⟨by have := h.na; omega, by have := h.nw; omega, fun i hi => by have := h.la i hi; omega, fun i hi => by have := h.lw i hi; omega⟩
/-- no list is longer than a list can be -/
structure Lens (C : Clim) (k : Nat) : Prop where
  na : C.nA ≤ 9223372036854775807
  nw : C.nW ≤ 9223372036854775807
  la : ∀ i, i < C.nA → (C.RA i).n ≤ 9223372036854775807
  lw : ∀ i, i < C.nW → (C.RW i).n ≤ 9223372036854775807
  st : k ≤ 9223372036854775807
def GreatEnd (C : Clim) (k : Nat) (w : World) (e : Ending) (w' : World) : Prop := ∃ b, e = .returned (.bool b) ∧ (b = false → GoodC C k) ∧ Below w.heap.size w w'
def listN (C : Clim) (t : Nat) : Nat := if t = 0 then C.nA else C.nW
def listA (C : Clim) (t : Nat) : Option Addr := if t = 0 then C.aA else C.aW
def listC (C : Clim) (t : Nat) : Nat := if t = 0 then C.cA else C.cW
def listR (C : Clim) (t : Nat) : Nat → RowD := if t = 0 then C.RA else C.RW
theorem list_rows {C : Clim} {w : World} (h : C.In w) (t : Nat) : RowsAt w (listA C t) (listN C t) (listR C t) := by
  unfold listA listN listR
  split
  · exact h.ra
  · exact h.rw
theorem list_lens {C : Clim} {k : Nat} (h : Lens C k) (t : Nat) : listN C t ≤ 9223372036854775807 ∧ ∀ i, i < listN C t → (listR C t i).n ≤ 9223372036854775807 := by
  unfold listN listR
  split
  · exact ⟨h.na, h.la⟩
  · exact ⟨h.nw, h.lw⟩

set_option maxRecDepth 100000 in
set_option maxHeartbeats 4000000 in
theorem great_any (C : Clim) (x : Cont) (aS : Option Addr) (k cS : Nat) (aD : Option Addr) (nd cD : Nat) (D : Nat → Int) (w : World) (hC : C.In w) (hl : Lens C k) (hD : IntsAt w aD nd D) (hn : nd ≤ 100) :
    Calls Try.prog 15 #[.agg #[.int .i64 C.days, .slice C.aA C.nA C.cA, .slice C.aW C.nW C.cW], x.val, .slice aS k cS, .slice aD nd cD] w (GreatEnd C k w) := by
  unfold Cont.val
  obtain ⟨W1, hW1⟩ : ∃ W1, ((w.alloc (.cells #[.int .i64 C.days, .slice C.aA C.nA C.cA, .slice C.aW C.nW C.cW] 24)).alloc (.cells #[.int .i64 x.day, .int .i64 x.alo, .int .i64 x.ahi, .int .i64 x.wlo, .int .i64 x.whi] 28)).alloc (.cells #[.slice C.aA C.nA C.cA, .slice C.aW C.nW C.cW] 22) = W1 := ⟨_, rfl⟩
  have hBc : Below w.heap.size w W1 := by rw [← hW1]; exact ((below_alloc _ _).alloc (by simp) _).alloc (by simp <;> omega) _
  have zc0 : W1.heap[w.heap.size]? = some (.cells #[.int .i64 C.days, .slice C.aA C.nA C.cA, .slice C.aW C.nW C.cW] 24 (0, 0)) := by rw [← hW1]; exact alloc_keep (alloc_keep (alloc_at rfl))
  have zc1 : W1.heap[w.heap.size + 1]? = some (.cells #[.int .i64 x.day, .int .i64 x.alo, .int .i64 x.ahi, .int .i64 x.wlo, .int .i64 x.whi] 28 (0, 0)) := by rw [← hW1]; exact alloc_keep (alloc_at (by simp))
  have zc2 : W1.heap[w.heap.size + 1 + 1]? = some (.cells #[.slice C.aA C.nA C.cA, .slice C.aW C.nW C.cW] 22 (0, 0)) := by rw [← hW1]; exact alloc_at (by simp <;> omega)
  have c00 : W1.cell? ⟨w.heap.size, 0, none⟩ = some (.int .i64 C.days) := cell_of_block zc0 0 (by simp)
  have c01 : W1.cell? ⟨w.heap.size, 1, none⟩ = some (.slice C.aA C.nA C.cA) := cell_of_block zc0 1 (by simp)
  have c02 : W1.cell? ⟨w.heap.size, 2, none⟩ = some (.slice C.aW C.nW C.cW) := cell_of_block zc0 2 (by simp)
  have c10 : W1.cell? ⟨w.heap.size + 1, 0, none⟩ = some (.int .i64 x.day) := cell_of_block zc1 0 (by simp)
  have c11 : W1.cell? ⟨w.heap.size + 1, 1, none⟩ = some (.int .i64 x.alo) := cell_of_block zc1 1 (by simp)
  have c12 : W1.cell? ⟨w.heap.size + 1, 2, none⟩ = some (.int .i64 x.ahi) := cell_of_block zc1 2 (by simp)
  have c13 : W1.cell? ⟨w.heap.size + 1, 3, none⟩ = some (.int .i64 x.wlo) := cell_of_block zc1 3 (by simp)
  have c14 : W1.cell? ⟨w.heap.size + 1, 4, none⟩ = some (.int .i64 x.whi) := cell_of_block zc1 4 (by simp)
  have c20 : W1.cell? ⟨w.heap.size + 1 + 1, 0, none⟩ = some (.slice C.aA C.nA C.cA) := cell_of_block zc2 0 (by simp)
  have c21 : W1.cell? ⟨w.heap.size + 1 + 1, 1, none⟩ = some (.slice C.aW C.nW C.cW) := cell_of_block zc2 1 (by simp)
  have lc0 := (Array.getElem?_eq_some_iff.1 zc0).1
  have lc1 := (Array.getElem?_eq_some_iff.1 zc1).1
  have lc2 := (Array.getElem?_eq_some_iff.1 zc2).1
  have Zc0 := Lib.hid zc0
  have Zc1 := Lib.hid zc1
  have Zc2 := Lib.hid zc2
  clear zc0 zc1 zc2
  have HBc := Lib.hid hBc; clear hBc
  have HWc := Lib.hid hW1; clear hW1
  have HC := Lib.hid (hC.below HBc.out); clear hC
  have HD := Lib.hid (hD.below HBc.out); clear hD
  have HL := Lib.hid hl; clear hl
  have HST := Lib.hid HL.out.st
  have sk := HL.out.st
  go_enter Try.func15, Try.ntmps15
  go_wp2_with fail
  rw [HWc.out]
  have z2 := Zc2.out
  go_loop [21] (fun t => ∃ j : Nat, j ≤ 2 ∧ t = .int .i64 j ∧ Hid (∀ i, i < j → listN C i ≤ 10 ∧ ∀ s, s < listN C i → (listR C i s).n ≤ 20)) (fun t => 2 - (intOf t).toNat)
  case atStart => exact ⟨0, by omega, rfl, Lib.hid (fun i hi => by omega)⟩
  case round =>
    obtain ⟨j, hj, rfl, hal⟩ := hrel
    by_cases hlt : j < 2
    · have x1 : W1.cell? ⟨w.heap.size + 1 + 1, j, none⟩ = some (.slice (listA C j) (listN C j) (listC C j)) := by
        match j, hlt with
        | 0, _ => exact cell_of_block z2 0 (by simp)
        | 1, _ => exact cell_of_block z2 1 (by simp)
      have lr := list_rows HC.out j
      obtain ⟨ln, lm⟩ := list_lens HL.out j
      have LN := Lib.hid lm; clear lm z2 c20 c21
      by_cases h10 : 10 < listN C j
      · generalize listA C j = a at *
        generalize listN C j = n at *
        generalize listC C j = c at *
        generalize listR C j = R at *
        have LR := Lib.hid lr; clear lr
        go_wp2_with fail
        go_ret
        exact ⟨true, rfl, (fun h => by cases h), HBc.out⟩
      · have H10 := Lib.hid (show listN C j ≤ 10 by omega)
        rcases lr with h0 | ⟨b, off, ea, lb, hc⟩
        · have AL := Lib.hid (all_succ (P := fun i => listN C i ≤ 10 ∧ ∀ s, s < listN C i → (listR C i s).n ≤ 20) hal.out ⟨H10.out, fun s hs => by omega⟩)
          rw [h0] at x1
          clear ln LN h0 H10 h10
          go_wp2_with fail
          go_loop [30] (fun t => t = .int .i64 0) (fun _ => 0)
          case atStart => rfl
          case round =>
            obtain rfl := hrel
            go_wp2_with fail
            go_round
            case rel => exact ⟨j + 1, by omega, by go_num, AL⟩
            case measure => simp [intOf]; omega
        · rw [ea] at x1
          have HCC := Lib.hid hc; clear hc ea
          obtain ⟨n, hn'⟩ : ∃ n, listN C j = n := ⟨_, rfl⟩
          rw [hn'] at x1 ln LN h10 H10 HCC
          have HN := Lib.hid hn'; clear hn'
          go_wp2_with fail
          go_loop [30] (fun t => ∃ s : Nat, s ≤ n ∧ t = .int .i64 s ∧ Hid (∀ i, i < s → (listR C j i).n ≤ 20)) (fun t => n - (intOf t).toNat)
          case atStart => exact ⟨0, Nat.zero_le _, rfl, Lib.hid (fun i hi => by omega)⟩
          case round =>
            obtain ⟨s, hs, rfl, hal2⟩ := hrel
            by_cases hls : s < n
            · obtain ⟨y1, y2⟩ := HCC.out s hls
              have yl := LN.out s hls
              clear y2
              by_cases h20 : 20 < (listR C j s).n
              · generalize (listR C j s).a = ra at *
                generalize (listR C j s).n = rn at *
                generalize (listR C j s).c = rc at *
                go_wp2_with fail
                go_ret
                exact ⟨true, rfl, (fun h => by cases h), HBc.out⟩
              · have NX := Lib.hid (all_succ (P := fun i => (listR C j i).n ≤ 20) hal2.out (by omega))
                go_wp2_with fail
                go_round
                case rel => exact ⟨s + 1, by omega, by go_num, NX⟩
                case measure => simp [intOf]; omega
            · obtain rfl : s = n := by omega
              have AL := Lib.hid (all_succ (P := fun i => listN C i ≤ 10 ∧ ∀ s, s < listN C i → (listR C i s).n ≤ 20) hal.out ⟨by rw [HN.out]; exact H10.out, fun t ht => hal2.out t (by rw [HN.out] at ht; exact ht)⟩)
              go_wp2_with fail
              go_round
              case rel => exact ⟨j + 1, by omega, by go_num, AL⟩
              case measure => simp [intOf]; omega
    · obtain rfl : j = 2 := by omega
      obtain ⟨a0, a1⟩ := hal.out 0 (by omega)
      obtain ⟨b0, b1⟩ := hal.out 1 (by omega)
      have GD := Lib.hid (fun hk : k ≤ 70 => (⟨a0, b0, a1, b1, hk⟩ : GoodC C k))
      clear a0 a1 b0 b1 z2 c20 c21
      have x0 := c10
      rcases HD.out with h0 | ⟨b, off, rfl, lb, hc⟩
      · subst h0
        go_wp2_with fail
        go_loop [41] (fun t => t = .int .i64 0) (fun _ => 0)
        case atStart => rfl
        case round =>
          obtain rfl := hrel
          by_cases h70 : 70 < k
          · go_wp2_with fail
            go_ret
            exact ⟨true, by simp; omega, (fun h => by cases h), HBc.out⟩
          · go_wp2_with fail
            go_ret
            exact ⟨false, by simp; omega, (fun _ => GD.out (by omega)), HBc.out⟩
      · have HCC := Lib.hid hc; clear hc
        go_wp2_with fail
        go_loop [41] (fun t => ∃ i : Nat, i ≤ nd ∧ t = .int .i64 i) (fun t => nd - (intOf t).toNat)
        case atStart => exact ⟨0, Nat.zero_le _, rfl⟩
        case round =>
          obtain ⟨i, hi, rfl⟩ := hrel
          by_cases hli : i < nd
          · have y := HCC.out i hli
            obtain ⟨u, hu⟩ : ∃ u, IntKind.i64.wrap (D i - x.day) = u := ⟨_, rfl⟩
            by_cases p1 : 0 < D i
            · by_cases p2 : D i ≤ 65536
              · by_cases p3 : 600 < u
                · go_wp2_with fail
                  go_ret
                  exact ⟨true, rfl, (fun h => by cases h), HBc.out⟩
                · by_cases p4 : x.day < 0
                  · go_wp2_with fail
                    go_ret
                    exact ⟨true, rfl, (fun h => by cases h), HBc.out⟩
                  · go_wp2_with fail
                    go_round
                    case rel => exact ⟨i + 1, by omega, by go_num⟩
                    case measure => simp [intOf]; omega
              · go_wp2_with fail
                go_round
                case rel => exact ⟨i + 1, by omega, by go_num⟩
                case measure => simp [intOf]; omega
            · go_wp2_with fail
              go_round
              case rel => exact ⟨i + 1, by omega, by go_num⟩
              case measure => simp [intOf]; omega
          · obtain rfl : i = nd := by omega
            by_cases h70 : 70 < k
            · go_wp2_with fail
              go_ret
              exact ⟨true, by simp; omega, (fun h => by cases h), HBc.out⟩
            · go_wp2_with fail
              go_ret
              exact ⟨false, by simp; omega, (fun _ => GD.out (by omega)), HBc.out⟩
end Go.Proofs.Ytljofnmgddfljaa
