/- Contracts of the reference's all, Outlook, Laying, Lots. No conditions beyond each theorem's own. -/
import Derived.Test.YtdcpgjepgajioaaBc
set_option linter.unusedVariables false
set_option linter.unusedSimpArgs false
set_option linter.unusedSectionVars false
set_option linter.constructorNameAsVariable false
namespace Go.Proofs.Ytdcpgjepgajioaa
open Go.RowKit

attribute [local go_sem] gw_cell gw_frozen gw_size

set_option maxRecDepth 100000 in
set_option maxHeartbeats 4000000 in
theorem rall_any (a : Option Addr) (n c : Nat) (L : Nat → Int) (lo hi : Int) (w : World) (hn : n ≤ 9223372036854775807) (hS : IntsAt w a n L) :
    Calls Try.prog 46 #[.slice a n c, .int .i64 lo, .int .i64 hi] w fun e w' => e = .returned (.bool (allB n fun i => inB (L i) lo hi)) ∧ w = w' := by
  have HS := Lib.hid hS; clear hS
  go_enter Try.func46, Try.ntmps46
  go_wp2_with fail
  go_loop [7] (fun t => ∃ k : Nat, k ≤ n ∧ t = .int .i64 k ∧ Hid (∀ i, i < k → inB (L i) lo hi = true)) (fun t => n - (intOf t).toNat)
  case atStart => exact ⟨0, Nat.zero_le _, rfl, Lib.hid (fun i hi => by omega)⟩
  case round =>
    obtain ⟨k, hk, rfl, hall⟩ := hrel
    by_cases hlt : k < n
    · rcases HS.out with h0 | ⟨b, off, rfl, lb0, hc⟩
      · omega
      have x1 := hc k hlt
      clear hc
      cases hp : inB (L k) lo hi with
      | true =>
        have HP := Lib.hid hp; clear hp
        go_wp2_with (go_at_call 38; (with_reducible refine (rin_b (L k) _ _ _ HP.out).mono ?_); rintro e w' ⟨rfl, rfl⟩)
        go_round
        case rel => exact ⟨k + 1, by omega, by go_num, Lib.hid (all_succ (P := fun i => inB (L i) lo hi = true) hall.out HP.out)⟩
        case measure => simp [intOf]; omega
      | false =>
        have HP := Lib.hid hp; clear hp
        have HE := Lib.hid (allB_f (p := fun i => inB (L i) lo hi) hlt HP.out)
        go_wp2_with (go_at_call 38; (with_reducible refine (rin_b (L k) _ _ _ HP.out).mono ?_); rintro e w' ⟨rfl, rfl⟩)
        go_ret
        exact ⟨by rw [HE.out]; rfl, rfl⟩
    · have HE := Lib.hid (allB_t.2 (fun i h => hall.out i (by omega)) : allB n (fun i => inB (L i) lo hi) = true)
      go_wp2_with fail
      go_ret
      exact ⟨by rw [HE.out]; rfl, rfl⟩
theorem rall_b {b : Bool} (a : Option Addr) (n c : Nat) (L : Nat → Int) (lo hi : Int) (w : World) (hn : n ≤ 9223372036854775807) (hS : IntsAt w a n L) (h : (allB n fun i => inB (L i) lo hi) = b) :
    Calls Try.prog 46 #[.slice a n c, .int .i64 lo, .int .i64 hi] w fun e w' => e = .returned (.bool b) ∧ w = w' := h ▸ rall_any a n c L lo hi w hn hS

set_option maxRecDepth 100000 in
set_option maxHeartbeats 4000000 in
theorem rLaying_any (o : Otl) (y : Lyg) (w : World) (hO : o.In w) (hn : 1 ≤ o.nP) (hp : o.pN 0 ≤ 9223372036854775807) (hI : y.In w) (hf : y.Fits) :
    Calls Try.prog 23 #[o.val, y.val] w fun e w' => e = .returned (.bool (layB o y)) ∧ Below w.heap.size w w' := by
  unfold Otl.val Lyg.val
  obtain ⟨W1, hW1⟩ : ∃ W1, (w.alloc (.cells #[.slice o.aS o.nS o.cS, .int .i64 o.kl, .int .i64 o.kh, .slice o.aA o.nA o.cA, .slice o.aP o.nP o.cP] 27)).alloc (.cells #[.slice y.aR y.nR y.cR, .slice y.aM y.nM y.cM, .int .i64 y.lot, .int .i64 y.room] 29) = W1 := ⟨_, rfl⟩
  have hBc : Below w.heap.size w W1 := by rw [← hW1]; exact (below_alloc _ _).alloc (by simp) _
  have zc0 : W1.heap[w.heap.size]? = some (.cells #[.slice o.aS o.nS o.cS, .int .i64 o.kl, .int .i64 o.kh, .slice o.aA o.nA o.cA, .slice o.aP o.nP o.cP] 27 (0, 0)) := by rw [← hW1]; exact alloc_keep (alloc_at rfl)
  have zc1 : W1.heap[w.heap.size + 1]? = some (.cells #[.slice y.aR y.nR y.cR, .slice y.aM y.nM y.cM, .int .i64 y.lot, .int .i64 y.room] 29 (0, 0)) := by rw [← hW1]; exact alloc_at (by simp)
  have c00 : W1.cell? ⟨w.heap.size, 0, none⟩ = some (.slice o.aS o.nS o.cS) := cell_of_block zc0 0 (by simp)
  have c01 : W1.cell? ⟨w.heap.size, 1, none⟩ = some (.int .i64 o.kl) := cell_of_block zc0 1 (by simp)
  have c02 : W1.cell? ⟨w.heap.size, 2, none⟩ = some (.int .i64 o.kh) := cell_of_block zc0 2 (by simp)
  have c03 : W1.cell? ⟨w.heap.size, 3, none⟩ = some (.slice o.aA o.nA o.cA) := cell_of_block zc0 3 (by simp)
  have c04 : W1.cell? ⟨w.heap.size, 4, none⟩ = some (.slice o.aP o.nP o.cP) := cell_of_block zc0 4 (by simp)
  have c10 : W1.cell? ⟨w.heap.size + 1, 0, none⟩ = some (.slice y.aR y.nR y.cR) := cell_of_block zc1 0 (by simp)
  have c11 : W1.cell? ⟨w.heap.size + 1, 1, none⟩ = some (.slice y.aM y.nM y.cM) := cell_of_block zc1 1 (by simp)
  have c12 : W1.cell? ⟨w.heap.size + 1, 2, none⟩ = some (.int .i64 y.lot) := cell_of_block zc1 2 (by simp)
  have c13 : W1.cell? ⟨w.heap.size + 1, 3, none⟩ = some (.int .i64 y.room) := cell_of_block zc1 3 (by simp)
  have lc0 := (Array.getElem?_eq_some_iff.1 zc0).1
  have lc1 := (Array.getElem?_eq_some_iff.1 zc1).1
  clear zc0 zc1
  have HBc := Lib.hid hBc; clear hBc
  have HWc := Lib.hid hW1; clear hW1
  have fR := hf.nR
  have fM := hf.nM
  have HI := Lib.hid (hI.below HBc.out)
  rcases (hO.below HBc.out).iP with h0 | ⟨b, off, ea, lb, hc⟩
  · omega
  have q0 := hc 0 (by omega)
  simp only [Nat.add_zero] at q0
  rw [ea] at c04
  have lt0 : 0 < o.nP := by omega
  clear hc hI hf hO
  rw [ea]
  rw [ea] at HWc
  unfold layB
  by_cases h0 : y.nR = o.pN 0
  rotate_left
  · rw [no_and (by simpa using h0)]
    have d0 : ((y.nR : Int) == (o.pN 0 : Int)) = false := by simp; omega
    go_enter Try.func23, Try.ntmps23
    go_upto_region 1 with (fail)
    rw [HWc.out]
    go_wp2_with fail
    go_ret
    exact ⟨rfl, HBc.out⟩
  rw [of_and (by simpa using h0) rfl]
  have d0 : ((y.nR : Int) == (o.pN 0 : Int)) = true := by simp; omega
  have H0 := Lib.hid h0; clear h0
  by_cases h1 : y.nM = o.pN 0
  rotate_left
  · rw [no_and (by simpa using h1)]
    have d1 : ((y.nM : Int) == (o.pN 0 : Int)) = false := by simp; omega
    go_enter Try.func23, Try.ntmps23
    go_upto_region 1 with (fail)
    rw [HWc.out]
    go_wp2_with fail
    go_ret
    exact ⟨rfl, HBc.out⟩
  rw [of_and (by simpa using h1) rfl]
  have d1 : ((y.nM : Int) == (o.pN 0 : Int)) = true := by simp; omega
  have H1 := Lib.hid h1; clear h1
  cases e2 : allB y.nR (fun i => inB (y.R i) 0 1073741824)
  · rw [no_and rfl]
    have E2 := Lib.hid e2; clear e2
    go_enter Try.func23, Try.ntmps23
    go_upto_region 1 with (fail)
    rw [HWc.out]
    go_wp2_with (go_at_call 46; (with_reducible refine (rall_b y.aR y.nR y.cR y.R _ _ _ (by omega) HI.out.iR E2.out).mono ?_); rintro e w' ⟨rfl, rfl⟩)
    go_ret
    exact ⟨rfl, HBc.out⟩
  rw [of_and rfl rfl]
  have E2 := Lib.hid e2; clear e2
  cases e3 : allB y.nM (fun i => inB (y.M i) 0 8)
  · rw [no_and rfl]
    have E3 := Lib.hid e3; clear e3
    go_enter Try.func23, Try.ntmps23
    go_upto_region 1 with (fail)
    rw [HWc.out]
    go_wp2_with (first | (go_at_call 46; (with_reducible refine (rall_b y.aR y.nR y.cR y.R _ _ _ (by omega) HI.out.iR E2.out).mono ?_); rintro e w' ⟨rfl, rfl⟩) | (go_at_call 46; (with_reducible refine (rall_b y.aM y.nM y.cM y.M _ _ _ (by omega) HI.out.iM E3.out).mono ?_); rintro e w' ⟨rfl, rfl⟩))
    go_ret
    exact ⟨rfl, HBc.out⟩
  rw [of_and rfl rfl]
  have E3 := Lib.hid e3; clear e3
  cases e4 : inB y.lot 1 137438953472
  · rw [no_and rfl]
    have E4 := Lib.hid e4; clear e4
    go_enter Try.func23, Try.ntmps23
    go_upto_region 1 with (fail)
    rw [HWc.out]
    go_wp2_with (first | (go_at_call 46; (with_reducible refine (rall_b y.aR y.nR y.cR y.R _ _ _ (by omega) HI.out.iR E2.out).mono ?_); rintro e w' ⟨rfl, rfl⟩) | (go_at_call 46; (with_reducible refine (rall_b y.aM y.nM y.cM y.M _ _ _ (by omega) HI.out.iM E3.out).mono ?_); rintro e w' ⟨rfl, rfl⟩) | (go_at_call 38; (with_reducible refine (rin_b y.lot _ _ _ E4.out).mono ?_); rintro e w' ⟨rfl, rfl⟩))
    go_ret
    exact ⟨rfl, HBc.out⟩
  rw [of_and rfl rfl]
  have E4 := Lib.hid e4; clear e4
  obtain ⟨bb, e5⟩ : ∃ bb, inB y.room 0 1099511627776 = bb := ⟨_, rfl⟩
  rw [e5]
  have E5 := Lib.hid e5; clear e5
  go_enter Try.func23, Try.ntmps23
  go_upto_region 1 with (fail)
  rw [HWc.out]
  go_wp2_with (first | (go_at_call 46; (with_reducible refine (rall_b y.aR y.nR y.cR y.R _ _ _ (by omega) HI.out.iR E2.out).mono ?_); rintro e w' ⟨rfl, rfl⟩) | (go_at_call 46; (with_reducible refine (rall_b y.aM y.nM y.cM y.M _ _ _ (by omega) HI.out.iM E3.out).mono ?_); rintro e w' ⟨rfl, rfl⟩) | (go_at_call 38; (with_reducible refine (rin_b y.lot _ _ _ E4.out).mono ?_); rintro e w' ⟨rfl, rfl⟩) | (go_at_call 38; (with_reducible refine (rin_b y.room _ _ _ E5.out).mono ?_); rintro e w' ⟨rfl, rfl⟩))
  go_ret
  exact ⟨rfl, HBc.out⟩

set_option maxRecDepth 100000 in
set_option maxHeartbeats 4000000 in
theorem rLots_any (y : Lyg) (aL : Option Addr) (n cL : Nat) (L : Nat → Int) (w : World) (hI : y.In w) (hf : y.Fits) (hL : IntsAt w aL n L) (hn : n ≤ 9223372036854775807) :
    Calls Try.prog 24 #[y.val, .slice aL n cL] w fun e w' => e = .returned (.bool (lotsB y n L)) ∧ Below w.heap.size w w' := by
  unfold Lyg.val
  obtain ⟨W1, hW1⟩ : ∃ W1, w.alloc (.cells #[.slice y.aR y.nR y.cR, .slice y.aM y.nM y.cM, .int .i64 y.lot, .int .i64 y.room] 29) = W1 := ⟨_, rfl⟩
  have hBc : Below w.heap.size w W1 := by rw [← hW1]; exact below_alloc _ _
  have zc0 : W1.heap[w.heap.size]? = some (.cells #[.slice y.aR y.nR y.cR, .slice y.aM y.nM y.cM, .int .i64 y.lot, .int .i64 y.room] 29 (0, 0)) := by rw [← hW1]; exact alloc_at rfl
  have c00 : W1.cell? ⟨w.heap.size, 0, none⟩ = some (.slice y.aR y.nR y.cR) := cell_of_block zc0 0 (by simp)
  have c01 : W1.cell? ⟨w.heap.size, 1, none⟩ = some (.slice y.aM y.nM y.cM) := cell_of_block zc0 1 (by simp)
  have c02 : W1.cell? ⟨w.heap.size, 2, none⟩ = some (.int .i64 y.lot) := cell_of_block zc0 2 (by simp)
  have c03 : W1.cell? ⟨w.heap.size, 3, none⟩ = some (.int .i64 y.room) := cell_of_block zc0 3 (by simp)
  have lc0 := (Array.getElem?_eq_some_iff.1 zc0).1
  clear zc0
  have HBc := Lib.hid hBc; clear hBc
  have HWc := Lib.hid hW1; clear hW1
  have fM := hf.nM
  have HI := Lib.hid (hI.below HBc.out)
  have HL := Lib.hid (hL.below HBc.out)
  clear hI hf hL
  unfold lotsB
  go_enter Try.func24, Try.ntmps24
  go_upto_region 1 with (fail)
  rw [HWc.out]
  go_wp2_with fail
  go_loopw [5] (fun i wr => ∃ k : Nat, k ≤ n ∧ i = .int .i64 k ∧ Hid (∀ j, j < k → inB (L j) 0 (y.M j) = true) ∧ ∃ x, wr = gw W1 x) (fun i _ => n - (intOf i).toNat)
  case atStart => exact ⟨0, Nat.zero_le _, rfl, Lib.hid (fun j hj => by omega), ⟨#[], W1.drawn⟩, by simp [gw]⟩
  case round =>
    obtain ⟨k, hk, rfl, hall, x, rfl⟩ := hrel
    by_cases hlt : k < n
    · by_cases hlm : k < y.nM
      · rcases HL.out with h0 | ⟨b, off, ea, lb, hc⟩
        · omega
        rcases HI.out.iM with h0 | ⟨b2, off2, ea2, lb2, hc2⟩
        · omega
        have x1 := hc k hlt
        have x2 := hc2 k hlm
        subst ea
        rw [ea2] at c01
        clear hc hc2 ea2
        have hn1 : (k : Int) < n := by omega
        have hn2 : (k : Int) < y.nM := by omega
        cases hb : inB (L k) 0 (y.M k) with
        | true =>
          have HB := Lib.hid hb; clear hb
          go_wp2_with fail
          refine wp_region_gw2 (by kernel_rfl) (by kernel_rfl) ?_
          repeat (go_big_quiet_step ((go_at_call 38; with_reducible exact Calls.gw_of_same (rin_b (L k) _ _ _ HB.out))))
          refine wpQuiet_nil ?_
          rintro _ ⟨z, rfl⟩
          go_wp2_with fail
          go_roundw
          case rel => exact ⟨k + 1, by omega, by go_num, Lib.hid (all_succ (P := fun j => inB (L j) 0 (y.M j) = true) hall.out HB.out), z, rfl⟩
          case measure => simp [intOf]; omega
        | false =>
          have HB := Lib.hid hb; clear hb
          have HE := Lib.hid (allB_f (p := fun t => inB (L t) 0 (y.M t)) hlt HB.out)
          go_wp2_with fail
          refine wp_region_gw2 (by kernel_rfl) (by kernel_rfl) ?_
          repeat (go_big_quiet_step ((go_at_call 38; with_reducible exact Calls.gw_of_same (rin_b (L k) _ _ _ HB.out))))
          refine wpQuiet_nil ?_
          rintro _ ⟨z, rfl⟩
          go_wp2_with fail
          go_ret
          exact ⟨by rw [HE.out, Bool.and_false]; rfl, HBc.out.gw z⟩
      · have d0 : ((n : Int) == (y.nM : Int)) = false := by simp; omega
        have d1 : decide (k < y.nM) = false := by simpa using hlm
        have HE := Lib.hid (show decide (n = y.nM) = false by simp; omega)
        go_wp2_with fail
        go_ret
        exact ⟨by rw [HE.out]; rfl, HBc.out.gw x⟩
    · have HE := Lib.hid (allB_t.2 (fun i hi => hall.out i (by omega)) : allB n (fun t => inB (L t) 0 (y.M t)) = true)
      have HQ := Lib.hid (show ((n : Int) == (y.nM : Int)) = decide (n = y.nM) by by_cases h : n = y.nM <;> simp [h] <;> omega)
      go_wp2_with fail
      go_ret
      exact ⟨by rw [HE.out, Bool.and_true, ← HQ.out]; rfl, HBc.out.gw x⟩

theorem outB_no {o : Otl} (h : outB o = true → False) : outB o = false := by cases e : outB o with | false => rfl | true => exact (h e).elim
theorem outB_of {o : Otl} (h0 : o.nS ≤ 32) (h1 : allB o.nS (fun i => inB (o.S i) 0 1099511627776) = true) (h2 : 0 ≤ o.kl) (h3 : o.kl ≤ o.kh) (h4 : o.kh ≤ 10000) (h5 : ∀ j, j + 1 < o.nA → o.A j < o.A (j + 1)) (h6 : o.nA ≤ 4)
    (h7 : allB o.nA (fun i => inB (o.A i) 0 31) = true) (h8 : inB o.nP 1 8 = true) (h9 : ∀ i, i < o.nP → o.pathB i = true) : outB o = true := by
  have e5 : allB (o.nA - 1) (fun i => decide (o.A i < o.A (i + 1))) = true := allB_t.2 (fun i hi => by simpa using h5 i (by omega))
  have e9 : allB o.nP o.pathB = true := allB_t.2 h9
  unfold outB
  rw [h1, e5, h7, h8, e9]
  simp [h0, h2, h3, h4, h6]

set_option maxRecDepth 100000 in
set_option maxHeartbeats 4000000 in
theorem rOutlook_any (o : Otl) (w : World) (hI : o.In w) (hf : o.Fits) :
    Calls Try.prog 22 #[o.val] w fun e w' => e = .returned (.bool (outB o)) ∧ Below w.heap.size w w' := by
  unfold Otl.val
  obtain ⟨W1, hW1⟩ : ∃ W1, w.alloc (.cells #[.slice o.aS o.nS o.cS, .int .i64 o.kl, .int .i64 o.kh, .slice o.aA o.nA o.cA, .slice o.aP o.nP o.cP] 27) = W1 := ⟨_, rfl⟩
  have hBc : Below w.heap.size w W1 := by rw [← hW1]; exact below_alloc _ _
  have zc0 : W1.heap[w.heap.size]? = some (.cells #[.slice o.aS o.nS o.cS, .int .i64 o.kl, .int .i64 o.kh, .slice o.aA o.nA o.cA, .slice o.aP o.nP o.cP] 27 (0, 0)) := by rw [← hW1]; exact alloc_at rfl
  have c00 : W1.cell? ⟨w.heap.size, 0, none⟩ = some (.slice o.aS o.nS o.cS) := cell_of_block zc0 0 (by simp)
  have c01 : W1.cell? ⟨w.heap.size, 1, none⟩ = some (.int .i64 o.kl) := cell_of_block zc0 1 (by simp)
  have c02 : W1.cell? ⟨w.heap.size, 2, none⟩ = some (.int .i64 o.kh) := cell_of_block zc0 2 (by simp)
  have c03 : W1.cell? ⟨w.heap.size, 3, none⟩ = some (.slice o.aA o.nA o.cA) := cell_of_block zc0 3 (by simp)
  have c04 : W1.cell? ⟨w.heap.size, 4, none⟩ = some (.slice o.aP o.nP o.cP) := cell_of_block zc0 4 (by simp)
  have lc0 := (Array.getElem?_eq_some_iff.1 zc0).1
  clear zc0
  have HBc := Lib.hid hBc; clear hBc
  have HWc := Lib.hid hW1; clear hW1
  have fS := hf.nS
  have fA := hf.nA
  have fP := hf.nP
  have HF := Lib.hid hf
  have HI := Lib.hid (hI.below HBc.out)
  clear hI hf
  by_cases h0 : o.nS ≤ 32
  rotate_left
  · skip
    have d0 : decide ((32 : Int) < (o.nS : Int)) = true := by simp; omega
    have HE := Lib.hid (outB_no (o := o) (fun h => by have := outB_t h; exact h0 this.1))
    go_enter Try.func22, Try.ntmps22
    go_upto_region 1 with (fail)
    rw [HWc.out]
    go_wp2_with fail
    go_ret
    exact ⟨by rw [HE.out]; rfl, HBc.out⟩
  have d0 : decide ((32 : Int) < (o.nS : Int)) = false := by simp; omega
  cases h1 : allB o.nS (fun i => inB (o.S i) 0 1099511627776)
  · have H1 := Lib.hid h1; clear h1
    have HE := Lib.hid (outB_no (o := o) (fun h => by have := outB_t h; rw [allB_t.2 (fun i hi => inB_t.2 (this.2.1 i hi))] at H1; have := H1.out; cases this))
    go_enter Try.func22, Try.ntmps22
    go_upto_region 1 with (fail)
    rw [HWc.out]
    go_wp2_with (go_at_call 46; (with_reducible refine (rall_b o.aS o.nS o.cS o.S _ _ _ (by omega) HI.out.iS H1.out).mono ?_); rintro e w' ⟨rfl, rfl⟩)
    go_ret
    exact ⟨by rw [HE.out]; rfl, HBc.out⟩
  have H1 := Lib.hid h1; clear h1
  by_cases h2 : 0 ≤ o.kl
  rotate_left
  · skip
    have d2 : decide (o.kl < 0) = true := by simp; omega
    have HE := Lib.hid (outB_no (o := o) (fun h => by have := outB_t h; omega))
    go_enter Try.func22, Try.ntmps22
    go_upto_region 1 with (fail)
    rw [HWc.out]
    go_wp2_with (go_at_call 46; (with_reducible refine (rall_b o.aS o.nS o.cS o.S _ _ _ (by omega) HI.out.iS H1.out).mono ?_); rintro e w' ⟨rfl, rfl⟩)
    go_ret
    exact ⟨by rw [HE.out]; rfl, HBc.out⟩
  have d2 : decide (o.kl < 0) = false := by simp; omega
  by_cases h3 : o.kl ≤ o.kh
  rotate_left
  · skip
    have d3 : decide (o.kh < o.kl) = true := by simp; omega
    have HE := Lib.hid (outB_no (o := o) (fun h => by have := outB_t h; omega))
    go_enter Try.func22, Try.ntmps22
    go_upto_region 1 with (fail)
    rw [HWc.out]
    go_wp2_with (go_at_call 46; (with_reducible refine (rall_b o.aS o.nS o.cS o.S _ _ _ (by omega) HI.out.iS H1.out).mono ?_); rintro e w' ⟨rfl, rfl⟩)
    go_ret
    exact ⟨by rw [HE.out]; rfl, HBc.out⟩
  have d3 : decide (o.kh < o.kl) = false := by simp; omega
  by_cases h4 : o.kh ≤ 10000
  rotate_left
  · skip
    have d4 : decide (10000 < o.kh) = true := by simp; omega
    have HE := Lib.hid (outB_no (o := o) (fun h => by have := outB_t h; omega))
    go_enter Try.func22, Try.ntmps22
    go_upto_region 1 with (fail)
    rw [HWc.out]
    go_wp2_with (go_at_call 46; (with_reducible refine (rall_b o.aS o.nS o.cS o.S _ _ _ (by omega) HI.out.iS H1.out).mono ?_); rintro e w' ⟨rfl, rfl⟩)
    go_ret
    exact ⟨by rw [HE.out]; rfl, HBc.out⟩
  have d4 : decide (10000 < o.kh) = false := by simp; omega
  by_cases h6 : o.nA ≤ 4
  rotate_left
  · skip
    have d6 : decide ((4 : Int) < (o.nA : Int)) = true := by simp; omega
    have HE := Lib.hid (outB_no (o := o) (fun h => by have := outB_t h; omega))
    go_enter Try.func22, Try.ntmps22
    go_upto_region 1 with (fail)
    rw [HWc.out]
    go_wp2_with (go_at_call 46; (with_reducible refine (rall_b o.aS o.nS o.cS o.S _ _ _ (by omega) HI.out.iS H1.out).mono ?_); rintro e w' ⟨rfl, rfl⟩)
    go_ret
    exact ⟨by rw [HE.out]; rfl, HBc.out⟩
  have d6 : decide ((4 : Int) < (o.nA : Int)) = false := by simp; omega
  cases h7 : allB o.nA (fun i => inB (o.A i) 0 31)
  · have H7 := Lib.hid h7; clear h7
    have HE := Lib.hid (outB_no (o := o) (fun h => by have := outB_t h; rw [allB_t.2 (fun i hi => inB_t.2 (this.2.2.2.2.2.2.2.1 i hi))] at H7; have := H7.out; cases this))
    go_enter Try.func22, Try.ntmps22
    go_upto_region 1 with (fail)
    rw [HWc.out]
    go_wp2_with (first | (go_at_call 46; (with_reducible refine (rall_b o.aS o.nS o.cS o.S _ _ _ (by omega) HI.out.iS H1.out).mono ?_); rintro e w' ⟨rfl, rfl⟩) | (go_at_call 46; (with_reducible refine (rall_b o.aA o.nA o.cA o.A _ _ _ (by omega) HI.out.iA H7.out).mono ?_); rintro e w' ⟨rfl, rfl⟩))
    go_ret
    exact ⟨by rw [HE.out]; rfl, HBc.out⟩
  have H7 := Lib.hid h7; clear h7
  cases h8 : inB o.nP 1 8
  · have H8 := Lib.hid h8; clear h8
    have HE := Lib.hid (outB_no (o := o) (fun h => by have := outB_t h; rw [inB_t.2 (by have := this.2.2.2.2.2.2.2.2.1; omega)] at H8; have := H8.out; cases this))
    go_enter Try.func22, Try.ntmps22
    go_upto_region 1 with (fail)
    rw [HWc.out]
    go_wp2_with (first | (go_at_call 46; (with_reducible refine (rall_b o.aS o.nS o.cS o.S _ _ _ (by omega) HI.out.iS H1.out).mono ?_); rintro e w' ⟨rfl, rfl⟩) | (go_at_call 46; (with_reducible refine (rall_b o.aA o.nA o.cA o.A _ _ _ (by omega) HI.out.iA H7.out).mono ?_); rintro e w' ⟨rfl, rfl⟩) | (go_at_call 38; (with_reducible refine (rin_b o.nP _ _ _ H8.out).mono ?_); rintro e w' ⟨rfl, rfl⟩))
    go_ret
    exact ⟨by rw [HE.out]; rfl, HBc.out⟩
  have H8 := Lib.hid h8; clear h8
  go_enter Try.func22, Try.ntmps22
  go_upto_region 1 with (fail)
  rw [HWc.out]
  go_wp2_with (first | (go_at_call 46; (with_reducible refine (rall_b o.aS o.nS o.cS o.S _ _ _ (by omega) HI.out.iS H1.out).mono ?_); rintro e w' ⟨rfl, rfl⟩) | (go_at_call 46; (with_reducible refine (rall_b o.aA o.nA o.cA o.A _ _ _ (by omega) HI.out.iA H7.out).mono ?_); rintro e w' ⟨rfl, rfl⟩) | (go_at_call 38; (with_reducible refine (rin_b o.nP _ _ _ H8.out).mono ?_); rintro e w' ⟨rfl, rfl⟩))
  clear d0 d2 d3 d4 d6
  have H0 := Lib.hid (And.intro h0 (And.intro h2 (And.intro h3 (And.intro h4 h6)))); clear h0 h2 h3 h4
  go_loopw [3] (fun i wr => ∃ k : Nat, k ≤ o.nA ∧ i = .int .i64 ((k : Int) + 1) ∧ Hid (∀ j, j < k → j + 1 < o.nA → o.A j < o.A (j + 1)) ∧ ∃ x, wr = gw W1 x) (fun i _ => o.nA + 1 - (intOf i).toNat)
  case atStart => exact ⟨0, Nat.zero_le _, rfl, Lib.hid (fun j hj => by omega), ⟨#[], W1.drawn⟩, by simp [gw]⟩
  case round =>
    obtain ⟨k, hk, rfl, hall, x, rfl⟩ := hrel
    by_cases hlt : k + 1 < o.nA
    · rcases HI.out.iA with h0 | ⟨b, off, ea, lb0, hc⟩
      · omega
      have x1 := hc k (by omega)
      have x2 := hc (k + 1) hlt
      have ec3 := c03
      rw [ea] at ec3
      have hw1 : IntKind.i64.wrap ((k : Int) + 1 - 1) = (k : Int) := by rw [show (k : Int) + 1 - 1 = (k : Int) by omega]; exact IntWalk.i64_in _ (by omega)
      have hw3 : ((k : Int) + 1).toNat = k + 1 := by omega
      have hw4 : 0 ≤ (k : Int) + 1 := by omega
      have hw5 : (k : Int) + 1 < (o.nA : Int) := by omega
      clear hc ea c03
      by_cases hA : o.A k < o.A (k + 1)
      · have dA : decide (o.A (k + 1) ≤ o.A k) = false := by simp; omega
        have HA := Lib.hid hA; clear hA
        go_wp2_with fail
        refine wp_region_gw2 (by kernel_rfl) (by kernel_rfl) ?_
        repeat (go_big_quiet_step (fail))
        refine wpQuiet_nil ?_
        rintro _ ⟨z, rfl⟩
        go_wp2_with fail
        go_roundw
        case rel => exact ⟨k + 1, by omega, by go_num, Lib.hid (fun j hj hj2 => by rcases (by omega : j < k ∨ j = k) with h | rfl; exact hall.out j h hj2; exact HA.out), z, rfl⟩
        case measure => simp [intOf]; omega
      · have dA : decide (o.A (k + 1) ≤ o.A k) = true := by simp; omega
        have HE := Lib.hid (outB_no (o := o) (fun h => hA ((outB_t h).2.2.2.2.2.1 k hlt)))
        clear hA
        go_wp2_with fail
        refine wp_region_gw2 (by kernel_rfl) (by kernel_rfl) ?_
        repeat (go_big_quiet_step (fail))
        refine wpQuiet_nil ?_
        rintro _ ⟨z, rfl⟩
        go_wp2_with fail
        go_ret
        exact ⟨by rw [HE.out]; rfl, HBc.out.gw z⟩
    · have H5 := Lib.hid (show ∀ j, j + 1 < o.nA → o.A j < o.A (j + 1) from fun j hj => hall.out j (by omega) hj)
      clear hall
      go_wp2_with fail
      go_loopw [4] (fun i wr => ∃ k : Nat, k ≤ o.nP ∧ i = .int .i64 k ∧ Hid (∀ j, j < k → o.pathB j = true) ∧ ∃ x, wr = gw W1 x) (fun i _ => o.nP - (intOf i).toNat)
      case atStart => exact ⟨0, Nat.zero_le _, rfl, Lib.hid (fun j hj => by omega), _, rfl⟩
      case round =>
        obtain ⟨i, hi, rfl, hpa, x3, rfl⟩ := hrel
        by_cases hlp : i < o.nP
        rotate_left
        · have HE := Lib.hid (show outB o = true from outB_of H0.out.1 H1.out H0.out.2.1 H0.out.2.2.1 H0.out.2.2.2.1 H5.out H0.out.2.2.2.2 H7.out H8.out (fun j hj => hpa.out j (by omega)))
          go_wp2_with fail
          go_ret
          exact ⟨by rw [HE.out]; rfl, HBc.out.gw x3⟩
        rcases HI.out.iP with h0 | ⟨b, off, ea, lb0, hc⟩
        · omega
        have q0 := hc 0 (by omega)
        have q1 := hc i hlp
        simp only [Nat.add_zero] at q0
        have ec4 := c04
        rw [ea] at ec4
        clear hc ea c04
        have hi1 : (i : Int) < (o.nP : Int) := by omega
        have fp := HF.out.pN i hlp
        have lt0 : 0 < o.nP := by omega
        by_cases p0 : o.pN i = o.pN 0
        rotate_left
        · have HE := Lib.hid (outB_no (o := o) (fun h => p0 ((outB_t h).2.2.2.2.2.2.2.2.2 i hlp).1))
          have g0 : ((o.pN i : Int) != (o.pN 0 : Int)) = true := by simp; omega
          clear p0
          go_wp2_with fail
          refine wp_region_gw2 (by kernel_rfl) (by kernel_rfl) ?_
          repeat (go_big_quiet_step (fail))
          refine wpQuiet_nil ?_
          rintro _ ⟨z, rfl⟩
          go_wp2_with fail
          go_ret
          exact ⟨by rw [HE.out]; rfl, HBc.out.gw z⟩
        have g0 : ((o.pN i : Int) != (o.pN 0 : Int)) = false := by simp; omega
        have P0 := Lib.hid p0; clear p0
        by_cases p1 : o.pN i ≤ 10
        rotate_left
        · have HE := Lib.hid (outB_no (o := o) (fun h => p1 ((outB_t h).2.2.2.2.2.2.2.2.2 i hlp).2.1))
          have g1 : decide ((10 : Int) < (o.pN i : Int)) = true := by simp; omega
          clear p1
          go_wp2_with fail
          refine wp_region_gw2 (by kernel_rfl) (by kernel_rfl) ?_
          repeat (go_big_quiet_step (fail))
          refine wpQuiet_nil ?_
          rintro _ ⟨z, rfl⟩
          go_wp2_with fail
          go_ret
          exact ⟨by rw [HE.out]; rfl, HBc.out.gw z⟩
        have g1 : decide ((10 : Int) < (o.pN i : Int)) = false := by simp; omega
        go_wp2_with fail
        refine wp_region_gw2 (by kernel_rfl) (by kernel_rfl) ?_
        repeat (go_big_quiet_step (fail))
        refine wpQuiet_nil ?_
        rintro _ ⟨z, rfl⟩
        clear g0 g1
        go_wp2_with fail
        go_loopw [5] (fun t wr => ∃ m : Nat, m ≤ o.pN i ∧ t = .int .i64 m ∧ Hid (∀ j, j < m → o.yearB i j = true) ∧ ∃ x, wr = gw W1 x) (fun t _ => o.pN i - (intOf t).toNat)
        case atStart => exact ⟨0, Nat.zero_le _, rfl, Lib.hid (fun j hj => by omega), z, rfl⟩
        case round =>
          obtain ⟨m, hm, rfl, hya, x4, rfl⟩ := hrel
          by_cases hlm : m < o.pN i
          rotate_left
          · have HP := Lib.hid (show o.pathB i = true by unfold Otl.pathB; rw [allB_t.2 (fun j hj => hya.out j (by omega))]; simp [P0.out, p1]; have := P0.out; omega)
            go_wp2_with fail
            go_roundw
            case rel => exact ⟨i + 1, by omega, by go_num, Lib.hid (all_succ (P := fun j => o.pathB j = true) hpa.out HP.out), x4, rfl⟩
            case measure => simp [intOf]; omega
          rcases HI.out.iY i hlp with h0 | ⟨b2, off2, ea2, lb2, hc2⟩
          · omega
          have q2 := hc2 m hlm
          have hV := Lib.hid (HI.out.iV i hlp m hlm)
          have hm1 : (m : Int) < (o.pN i : Int) := by omega
          rw [ea2] at q1
          clear hc2 ea2
          have fy := HF.out.yN i hlp m hlm
          by_cases p2 : o.yN i m = o.nA
          rotate_left
          · have HE := Lib.hid (outB_no (o := o) (fun h => p2 (((outB_t h).2.2.2.2.2.2.2.2.2 i hlp).2.2 m hlm).1))
            have g0 : ((o.yN i m : Int) != (o.nA : Int)) = true := by simp; omega
            clear p2
            go_wp2_with fail
            refine wp_region_gw2 (by kernel_rfl) (by kernel_rfl) ?_
            repeat (go_big_quiet_step (fail))
            refine wpQuiet_nil ?_
            rintro _ ⟨z5, rfl⟩
            go_wp2_with fail
            go_ret
            exact ⟨by rw [HE.out]; rfl, HBc.out.gw z5⟩
          have g0 : ((o.yN i m : Int) != (o.nA : Int)) = false := by simp; omega
          have P2 := Lib.hid p2; clear p2
          cases v : allB (o.yN i m) (fun p => inB (o.V i m p) 0 1099511627776)
          · have HV := Lib.hid v; clear v
            have HE := Lib.hid (outB_no (o := o) (fun h => by have := HV.out; rw [allB_t.2 (fun p hp => inB_t.2 ((((outB_t h).2.2.2.2.2.2.2.2.2 i hlp).2.2 m hlm).2 p hp))] at this; cases this))
            go_wp2_with fail
            refine wp_region_gw2 (by kernel_rfl) (by kernel_rfl) ?_
            repeat (go_big_quiet_step (((go_at_call 46; with_reducible exact Calls.gw_of_same (rall_b (o.yA i m) (o.yN i m) (o.yC i m) (o.V i m) _ _ _ fy (hV.out.below (below_gw W1 _)) HV.out)))))
            refine wpQuiet_nil ?_
            rintro _ ⟨z5, rfl⟩
            go_wp2_with fail
            go_ret
            exact ⟨by rw [HE.out]; rfl, HBc.out.gw z5⟩
          have HV := Lib.hid v; clear v
          have HY := Lib.hid (show o.yearB i m = true by unfold Otl.yearB; rw [HV.out]; simp [P2.out])
          go_wp2_with fail
          refine wp_region_gw2 (by kernel_rfl) (by kernel_rfl) ?_
          repeat (go_big_quiet_step (((go_at_call 46; with_reducible exact Calls.gw_of_same (rall_b (o.yA i m) (o.yN i m) (o.yC i m) (o.V i m) _ _ _ fy (hV.out.below (below_gw W1 _)) HV.out)))))
          refine wpQuiet_nil ?_
          rintro _ ⟨z5, rfl⟩
          go_wp2_with fail
          go_roundw
          case rel => exact ⟨m + 1, by omega, by go_num, Lib.hid (all_succ (P := fun j => o.yearB i j = true) hya.out HY.out), z5, rfl⟩
          case measure => simp [intOf]; omega
end Go.Proofs.Ytdcpgjepgajioaa
