/- Contracts of the reference's floor, Stays. No conditions beyond each theorem's own. -/
import Derived.Test.YtljofnmgddfljaaBm
set_option linter.unusedVariables false
set_option linter.unusedSimpArgs false
set_option linter.unusedSectionVars false
set_option linter.constructorNameAsVariable false
namespace Go.Proofs.Ytljofnmgddfljaa
open Go.RowKit

attribute [local go_sem] gw_cell gw_frozen gw_size

/-- the reference's floor of a day -/
def floR (F G : Nat → Int) (n : Nat) (d : Int) : Int := if lb F (d + 1) n = 0 then -1 else G (stayAt F n d)
/-- the same among the first stays -/
def floK (F G : Nat → Int) (n : Nat) (d : Int) (k : Nat) : Int := if min k (lb F (d + 1) n) = 0 then -1 else G (min k (lb F (d + 1) n) - 1)
theorem floK_low {F G : Nat → Int} {n : Nat} {d : Int} {k : Nat} (hm : ∀ i, i + 1 < n → F i < F (i + 1)) (hk : k < n) (h : F k ≤ d) : floK F G n d (k + 1) = G k := by
  have : k < lb F (d + 1) n := by
    rcases Nat.lt_or_ge k (lb F (d + 1) n) with h' | h'
    · exact h'
    · have a := lb_stop F (d + 1) n (by omega)
      have := mono_of (fun i hi => Int.le_of_lt (hm i hi)) _ _ h' hk
      omega
  unfold floK
  rw [show min (k + 1) (lb F (d + 1) n) = k + 1 by omega, if_neg (by omega), Nat.add_sub_cancel]
theorem floK_high {F G : Nat → Int} {n : Nat} {d : Int} {k : Nat} (h : ¬ F k ≤ d) : floK F G n d (k + 1) = floK F G n d k := by
  have : lb F (d + 1) n ≤ k := by
    rcases Nat.lt_or_ge k (lb F (d + 1) n) with h' | h'
    · have := lb_lt F (d + 1) n k h'; omega
    · exact h'
  unfold floK
  rw [show min (k + 1) (lb F (d + 1) n) = min k (lb F (d + 1) n) by omega]
theorem floK_all (F G : Nat → Int) (n : Nat) (d : Int) : floK F G n d n = floR F G n d := by
  unfold floK floR stayAt
  rw [show min n (lb F (d + 1) n) = lb F (d + 1) n from Nat.min_eq_right (lb_le _ _ _)]
theorem floK_zero (F G : Nat → Int) (n : Nat) (d : Int) : floK F G n d 0 = -1 := by unfold floK; simp

set_option maxHeartbeats 1000000 in
theorem rfloor_any (a : Option Addr) (n c : Nat) (d : Int) (F G : Nat → Int) (w : World) (hn : n ≤ 64) (hS : SpansAt w a n F G) (hm : ∀ i, i + 1 < n → F i < F (i + 1)) :
    Calls Try.prog 90 #[.slice a n c, .int .i64 d] w fun e w' => e = .returned (.int .i64 (floR F G n d)) ∧ w = w' := by
  have HS := Lib.hid hS; clear hS
  have HM := Lib.hid hm; clear hm
  go_enter Try.func90, Try.ntmps90
  go_wp2_with fail
  go_loop [5, 6] (fun o t => ∃ k : Nat, k ≤ n ∧ t = .int .i64 k ∧ o = .int .i64 (floK F G n d k)) (fun _ t => n - (intOf t).toNat)
  case atStart => exact ⟨0, Nat.zero_le _, rfl, by rw [floK_zero]⟩
  case round =>
    obtain ⟨k, hk, rfl, rfl⟩ := hrel
    by_cases hlt : k < n
    · rcases HS.out with h0 | ⟨b, off, rfl, lb, hc⟩
      · omega
      obtain ⟨x1, x2⟩ := hc k hlt
      clear hc
      by_cases hd : F k ≤ d
      · have NX := Lib.hid (floK_low (G := G) HM.out hlt hd)
        go_wp2_with fail
        go_round
        case rel => exact ⟨k + 1, by omega, by go_num, by rw [NX.out]⟩
        case measure => simp [intOf]; omega
      · have NX := Lib.hid (floK_high (G := G) (n := n) hd)
        go_wp2_with fail
        go_round
        case rel => exact ⟨k + 1, by omega, by go_num, by rw [NX.out]⟩
        case measure => simp [intOf]; omega
    · obtain rfl : n = k := by omega
      have AL := Lib.hid (floK_all F G n d)
      go_wp2_with fail
      go_ret
      exact ⟨by rw [← AL.out]; rfl, rfl⟩

set_option maxRecDepth 100000 in
set_option maxHeartbeats 4000000 in
theorem rStays_any (C : Clim) (aS : Option Addr) (n c : Nat) (F G : Nat → Int) (w : World) (hf : C.Fits) (hn : n ≤ 9223372036854775807) (hS : SpansAt w aS n F G) :
    Calls Try.prog 27 #[.agg #[.int .i64 C.days, .slice C.aA C.nA C.cA, .slice C.aW C.nW C.cW], .slice aS n c] w fun e w' => e = .returned (.bool (staysB C.nA n F G)) ∧ Below w.heap.size w w' := by
  have na := hf.na
  clear hf
  obtain ⟨W1, hW1⟩ : ∃ W1, w.alloc (.cells #[.int .i64 C.days, .slice C.aA C.nA C.cA, .slice C.aW C.nW C.cW] 24) = W1 := ⟨_, rfl⟩
  have hBc : Below w.heap.size w W1 := by rw [← hW1]; exact below_alloc _ _
  have zc0 : W1.heap[w.heap.size]? = some (.cells #[.int .i64 C.days, .slice C.aA C.nA C.cA, .slice C.aW C.nW C.cW] 24 (0, 0)) := by rw [← hW1]; exact alloc_at rfl
  have c00 : W1.cell? ⟨w.heap.size, 0, none⟩ = some (.int .i64 C.days) := cell_of_block zc0 0 (by simp)
  have c01 : W1.cell? ⟨w.heap.size, 1, none⟩ = some (.slice C.aA C.nA C.cA) := cell_of_block zc0 1 (by simp)
  have c02 : W1.cell? ⟨w.heap.size, 2, none⟩ = some (.slice C.aW C.nW C.cW) := cell_of_block zc0 2 (by simp)
  have lc0 := (Array.getElem?_eq_some_iff.1 zc0).1
  clear zc0
  have HBc := Lib.hid hBc; clear hBc
  have HWc := Lib.hid hW1; clear hW1
  have HS := Lib.hid (hS.below HBc.out); clear hS
  cases g : inB n 1 64 with
  | false =>
    have RB := Lib.hid (show staysB C.nA n F G = false by unfold staysB; rw [g]; rfl)
    have G0 := Lib.hid g; clear g
    go_enter Try.func27, Try.ntmps27
    go_wp2_with fail
    rw [HWc.out]
    go_wp2_with fail
    refine (rin_b _ _ _ _ G0.out).mono ?_
    rintro e w1 ⟨rfl, rfl⟩
    go_wp2_with fail
    go_ret
    exact ⟨by rw [RB.out]; rfl, HBc.out⟩
  | true =>
    have bn := inB_t.1 g
    have G0 := Lib.hid g; clear g
    go_enter Try.func27, Try.ntmps27
    go_wp2_with fail
    rw [HWc.out]
    go_wp2_with fail
    refine (rin_b _ _ _ _ G0.out).mono ?_
    rintro e w1 ⟨rfl, rfl⟩
    go_wp2_with fail
    go_loopw [5] (fun t wr => ∃ k : Nat, k ≤ n ∧ t = .int .i64 k ∧ Hid (∀ i, i < k → stayB C.nA F G i = true) ∧ ∃ x, wr = gw W1 x) (fun t _ => n - (intOf t).toNat)
    case atStart => exact ⟨0, Nat.zero_le _, rfl, Lib.hid (fun i hi => by omega), ⟨#[], W1.drawn⟩, by simp [gw]⟩
    case round =>
      obtain ⟨k, hk, rfl, hall, x, rfl⟩ := hrel
      by_cases hlt : k < n
      · rcases HS.out with h0 | ⟨b, off, rfl, lb, hc⟩
        · omega
        obtain ⟨x1, x2⟩ := hc k hlt
        have xp := fun h : 0 < k => (hc (k - 1) (by omega)).1
        clear hc
        cases g1 : inB (F k) 0 65536 with
        | false =>
          have RB := Lib.hid (show staysB C.nA n F G = false by unfold staysB; rw [allB_f hlt (show stayB C.nA F G k = false by unfold stayB; rw [g1]; rfl)]; simp)
          have G1 := Lib.hid g1; clear g1 xp
          go_wp2_with fail
          refine wp_region_gw2 (by kernel_rfl) (by kernel_rfl) ?_
          repeat (go_big_quiet_step ((go_at_call 50; first | exact Calls.gw_of_same (rin_b _ _ _ _ G1.out) | exact Calls.gw_of_same (rin_b _ _ _ _ G2.out))))
          refine wpQuiet_nil ?_
          rintro _ ⟨z, rfl⟩
          go_wp2_with fail
          go_ret
          exact ⟨by rw [RB.out]; rfl, HBc.out.gw z⟩
        | true =>
          cases g2 : inB (G k) 0 (C.nA - 1) with
          | false =>
            have RB := Lib.hid (show staysB C.nA n F G = false by unfold staysB; rw [allB_f hlt (show stayB C.nA F G k = false by unfold stayB; rw [g1, g2]; rfl)]; simp)
            have G1 := Lib.hid g1; clear g1 xp
            have G2 := Lib.hid g2; clear g2
            go_wp2_with fail
            refine wp_region_gw2 (by kernel_rfl) (by kernel_rfl) ?_
            repeat (go_big_quiet_step ((go_at_call 50; first | exact Calls.gw_of_same (rin_b _ _ _ _ G1.out) | exact Calls.gw_of_same (rin_b _ _ _ _ G2.out))))
            refine wpQuiet_nil ?_
            rintro _ ⟨z, rfl⟩
            go_wp2_with fail
            go_ret
            exact ⟨by rw [RB.out]; rfl, HBc.out.gw z⟩
          | true =>
            by_cases hk0 : k = 0
            · have ST := Lib.hid (show stayB C.nA F G k = true by unfold stayB; rw [g1, g2, decide_eq_true hk0]; rfl)
              have e1 : decide (0 < k) = false := by simp; omega
              have HK0 := Lib.hid hk0; clear hk0
              have G1 := Lib.hid g1; clear g1 xp
              have G2 := Lib.hid g2; clear g2
              go_wp2_with fail
              refine wp_region_gw2 (by kernel_rfl) (by kernel_rfl) ?_
              repeat (go_big_quiet_step ((go_at_call 50; first | exact Calls.gw_of_same (rin_b _ _ _ _ G1.out) | exact Calls.gw_of_same (rin_b _ _ _ _ G2.out))))
              refine wpQuiet_nil ?_
              rintro _ ⟨z, rfl⟩
              go_wp2_with fail
              go_roundw
              case rel => exact ⟨k + 1, by omega, by go_num, Lib.hid (all_succ (P := fun i => stayB C.nA F G i = true) hall.out ST.out), z, rfl⟩
              case measure => simp [intOf]; omega
            · have k1 : 0 < k := by omega
              have e1 : decide ((0 : Int) < (k : Int)) = true := by simp; omega
              obtain ⟨j, rfl⟩ : ∃ j : Nat, k = j + 1 := ⟨k - 1, by omega⟩
              have xj := xp k1
              rw [Nat.add_sub_cancel] at xj
              by_cases g3 : F j < F (j + 1)
              · have ST := Lib.hid (show stayB C.nA F G (j + 1) = true by unfold stayB; rw [g1, g2, Nat.add_sub_cancel, decide_eq_true g3]; simp)
                have e3 : decide (F (j + 1) ≤ F j) = false := by simp; omega
                have G1 := Lib.hid g1; clear g1 xp
                have G2 := Lib.hid g2; clear g2
                go_wp2_with fail
                refine wp_region_gw2 (by kernel_rfl) (by kernel_rfl) ?_
                repeat (go_big_quiet_step ((go_at_call 50; first | exact Calls.gw_of_same (rin_b _ _ _ _ G1.out) | exact Calls.gw_of_same (rin_b _ _ _ _ G2.out))))
                refine wpQuiet_nil ?_
                rintro _ ⟨z, rfl⟩
                go_wp2_with fail
                go_roundw
                case rel => exact ⟨j + 1 + 1, by omega, by go_num, Lib.hid (all_succ (P := fun i => stayB C.nA F G i = true) hall.out ST.out), z, rfl⟩
                case measure => simp [intOf]; omega
              · have RB := Lib.hid (show staysB C.nA n F G = false by unfold staysB; rw [allB_f hlt (show stayB C.nA F G (j + 1) = false by unfold stayB; rw [g1, g2, Nat.add_sub_cancel, decide_eq_false g3]; simp)]; simp)
                have e3 : decide (F (j + 1) ≤ F j) = true := by simp; omega
                have G1 := Lib.hid g1; clear g1 xp
                have G2 := Lib.hid g2; clear g2
                go_wp2_with fail
                refine wp_region_gw2 (by kernel_rfl) (by kernel_rfl) ?_
                repeat (go_big_quiet_step ((go_at_call 50; first | exact Calls.gw_of_same (rin_b _ _ _ _ G1.out) | exact Calls.gw_of_same (rin_b _ _ _ _ G2.out))))
                refine wpQuiet_nil ?_
                rintro _ ⟨z, rfl⟩
                go_wp2_with fail
                go_ret
                exact ⟨by rw [RB.out]; rfl, HBc.out.gw z⟩
      · obtain rfl : n = k := by omega
        have RB := Lib.hid (show staysB C.nA n F G = true by unfold staysB; rw [allB_t.2 hall.out, G0.out]; rfl)
        go_wp2_with fail
        go_ret
        exact ⟨by rw [RB.out]; rfl, HBc.out.gw x⟩
theorem rStays_b {b : Bool} (C : Clim) (aS : Option Addr) (n c : Nat) (F G : Nat → Int) (w : World) (hf : C.Fits) (hn : n ≤ 9223372036854775807) (hS : SpansAt w aS n F G) (h : staysB C.nA n F G = b) :
    Calls Try.prog 27 #[.agg #[.int .i64 C.days, .slice C.aA C.nA C.cA, .slice C.aW C.nW C.cW], .slice aS n c] w fun e w' => e = .returned (.bool b) ∧ Below w.heap.size w w' := h ▸ rStays_any C aS n c F G w hf hn hS
end Go.Proofs.Ytljofnmgddfljaa
