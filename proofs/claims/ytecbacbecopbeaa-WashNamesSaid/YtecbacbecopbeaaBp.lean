/- Contracts of Bound, of sort.Search over what Vent asks, of Vent. No conditions beyond each theorem's own. -/
import Derived.Test.YtecbacbecopbeaaBo
set_option linter.unusedVariables false
set_option linter.unusedSimpArgs false
set_option linter.unusedSectionVars false
set_option linter.constructorNameAsVariable false
namespace Go.Proofs.Ytecbacbecopbeaa
open Go.RowKit

attribute [local go_sem] gw_cell gw_frozen gw_size

def boundB (a v : Int) : Bool := inB a 0 1073741824 && inB v 0 1000
theorem boundB_t {a v : Int} (h : boundB a v = true) : (0 ≤ a ∧ a ≤ 1073741824) ∧ (0 ≤ v ∧ v ≤ 1000) := by
  simp only [boundB, Bool.and_eq_true] at h
  exact ⟨inB_t.1 h.1, inB_t.1 h.2⟩
def boundE (a v : Int) : Int := if boundB a v = true then (if a = 0 then 0 else if v = 0 then 12 else 0) else 2
def boundV (a v : Int) : Int := if boundB a v = true ∧ a ≠ 0 ∧ v ≠ 0 then upI (a * (1000 - v)) v else 0
theorem bound_mul {a v : Int} (h : boundB a v = true) : 0 ≤ a * (1000 - v) ∧ a * (1000 - v) ≤ 1073741824000 := by
  obtain ⟨⟨a0, a1⟩, v0, v1⟩ := boundB_t h
  have := Int.mul_nonneg a0 (show 0 ≤ 1000 - v by omega)
  have := Int.mul_le_mul a1 (show 1000 - v ≤ 1000 by omega) (show 0 ≤ 1000 - v by omega) (show (0 : Int) ≤ 1073741824 by omega)
  omega
theorem boundV_range (a v : Int) : 0 ≤ boundV a v ∧ boundV a v ≤ 1073741824000 := by
  unfold boundV
  split
  · rename_i h
    obtain ⟨h1, h2, h3⟩ := h
    obtain ⟨_, v0, v1⟩ := boundB_t h1
    obtain ⟨m0, m1⟩ := bound_mul h1
    exact ⟨upI_nonneg m0 (by omega), upI_le (by omega) (by
      have := Int.mul_le_mul_of_nonneg_left (show 1 ≤ v by omega) (show (0 : Int) ≤ 1073741824000 by omega)
      omega)⟩
  · omega

set_option maxRecDepth 100000 in
set_option maxHeartbeats 1000000 in
theorem Bound_any (a v : Int) (w : World) : Calls Try.prog 32 #[.int .i64 a, .int .i64 v] w fun e w' => e = .returned (.tuple #[.int .i64 (boundV a v), .int .i64 (boundE a v)]) ∧ w = w' := by
  cases h1 : inB a 0 1073741824 with
  | false =>
    have e1 : boundE a v = 2 := by unfold boundE boundB; rw [h1]; rfl
    have e2 : boundV a v = 0 := by unfold boundV boundB; rw [h1]; rfl
    rw [e1, e2]
    have T1 := Lib.hid h1; clear h1 e1 e2
    go_enter Try.func32, Try.ntmps32
    go_wp2_with fail
    refine (within_b a 0 1073741824 _ T1.out).mono ?_
    rintro e w1 ⟨rfl, rfl⟩
    go_wp2_with fail
    go_ret2
    exact ⟨rfl, rfl⟩
  | true =>
    cases h2 : inB v 0 1000 with
    | false =>
      have e1 : boundE a v = 2 := by unfold boundE boundB; rw [h1, h2]; rfl
      have e2 : boundV a v = 0 := by unfold boundV boundB; rw [h1, h2]; rfl
      rw [e1, e2]
      have T1 := Lib.hid h1; have T2 := Lib.hid h2; clear h1 h2 e1 e2
      go_enter Try.func32, Try.ntmps32
      go_wp2_with fail
      refine (within_b a 0 1073741824 _ T1.out).mono ?_
      rintro e w1 ⟨rfl, rfl⟩
      go_wp2_with fail
      refine (within_b v 0 1000 _ T2.out).mono ?_
      rintro e w1 ⟨rfl, rfl⟩
      go_wp2_with fail
      go_ret2
      exact ⟨rfl, rfl⟩
    | true =>
      have hb : boundB a v = true := by unfold boundB; rw [h1, h2]; rfl
      obtain ⟨m0, m1⟩ := bound_mul hb
      obtain ⟨⟨a0, a1⟩, v0, v1⟩ := boundB_t hb
      have T1 := Lib.hid h1; have T2 := Lib.hid h2; clear h1 h2
      by_cases ha : a = 0
      · have e1 : boundE a v = 0 := by unfold boundE; rw [if_pos hb, if_pos ha]
        have e2 : boundV a v = 0 := by unfold boundV; rw [if_neg (fun h => h.2.1 ha)]
        rw [e1, e2]
        clear e1 e2
        have ae : (a == 0) = true := by simpa using ha
        clear ha hb m0 m1
        go_enter Try.func32, Try.ntmps32
        go_wp2_with fail
        refine (within_b a 0 1073741824 _ T1.out).mono ?_
        rintro e w1 ⟨rfl, rfl⟩
        go_wp2_with fail
        refine (within_b v 0 1000 _ T2.out).mono ?_
        rintro e w1 ⟨rfl, rfl⟩
        go_wp2_with fail
        go_ret2
        exact ⟨rfl, rfl⟩
      · have ae : (a == 0) = false := by simpa using ha
        by_cases hv : v = 0
        · have e1 : boundE a v = 12 := by unfold boundE; rw [if_pos hb, if_neg ha, if_pos hv]
          have e2 : boundV a v = 0 := by unfold boundV; rw [if_neg (fun h => h.2.2 hv)]
          rw [e1, e2]
          clear e1 e2
          have ve : (v == 0) = true := by simpa using hv
          clear hv hb m0 m1
          go_enter Try.func32, Try.ntmps32
          go_wp2_with fail
          refine (within_b a 0 1073741824 _ T1.out).mono ?_
          rintro e w1 ⟨rfl, rfl⟩
          go_wp2_with fail
          refine (within_b v 0 1000 _ T2.out).mono ?_
          rintro e w1 ⟨rfl, rfl⟩
          go_wp2_with fail
          go_ret2
          exact ⟨rfl, rfl⟩
        · have e1 : boundE a v = 0 := by unfold boundE; rw [if_pos hb, if_neg ha, if_neg hv]
          have e2 : boundV a v = upI (a * (1000 - v)) v := by unfold boundV; rw [if_pos ⟨hb, ha, hv⟩]
          rw [e1, e2]
          clear e1 e2
          have ve : (v == 0) = false := by simpa using hv
          have CE := Lib.hid (fun w => ceil_any (a * (1000 - v)) v w (by omega) (by omega) (by omega))
          go_enter Try.func32, Try.ntmps32
          go_wp2_with fail
          refine (within_b a 0 1073741824 _ T1.out).mono ?_
          rintro e w1 ⟨rfl, rfl⟩
          go_wp2_with fail
          refine (within_b v 0 1000 _ T2.out).mono ?_
          rintro e w1 ⟨rfl, rfl⟩
          go_wp2_with fail
          refine (CE.out _).mono ?_
          rintro e w1 ⟨rfl, rfl⟩
          go_wp2_with fail
          go_ret2
          exact ⟨rfl, rfl⟩

/-- a vent is enough -/
def ventB (a lim : Int) (v : Nat) : Bool := decide (boundE a v = 0) && decide (boundV a v + a ≤ lim)
theorem upI_anti {a b v u : Int} (hv : 1 ≤ v) (hvu : v ≤ u) (h0 : 0 ≤ b) (hab : b ≤ a) : upI b u ≤ upI a v := by
  have h := le_upI (a := a) hv
  have n := upI_nonneg (show 0 ≤ a by omega) hv
  exact upI_le (by omega) (Int.le_trans hab (Int.le_trans h (Int.mul_le_mul_of_nonneg_left hvu n)))
theorem ventB_up {a lim : Int} {v : Nat} (hv : v + 1 ≤ 1000) (h : ventB a lim v = true) : ventB a lim (v + 1) = true := by
  simp only [ventB, Bool.and_eq_true, decide_eq_true_eq] at h ⊢
  obtain ⟨h1, h2⟩ := h
  have hb : boundB a v = true := by
    unfold boundE at h1
    split at h1
    · assumption
    · omega
  have hb2 : boundB a ((v + 1 : Nat) : Int) = true := by
    simp only [boundB, Bool.and_eq_true] at hb ⊢
    exact ⟨hb.1, inB_t.2 (by omega)⟩
  obtain ⟨⟨a0, a1⟩, v0, v1⟩ := boundB_t hb
  by_cases ha : a = 0
  · refine ⟨by unfold boundE; rw [if_pos hb2, if_pos ha], ?_⟩
    have e : boundV a ((v + 1 : Nat) : Int) = 0 := by unfold boundV; rw [if_neg (fun h => h.2.1 ha)]
    have e2 : boundV a (v : Int) = 0 := by unfold boundV; rw [if_neg (fun h => h.2.1 ha)]
    rw [e]; rw [e2] at h2; exact h2
  · have hv0 : (v : Int) ≠ 0 := fun e => by
      unfold boundE at h1
      rw [if_pos hb, if_neg ha, if_pos e] at h1
      omega
    refine ⟨by unfold boundE; rw [if_pos hb2, if_neg ha, if_neg (by omega)], ?_⟩
    have e : boundV a ((v + 1 : Nat) : Int) = upI (a * (1000 - ((v + 1 : Nat) : Int))) ((v + 1 : Nat) : Int) := by unfold boundV; rw [if_pos ⟨hb2, ha, by omega⟩]
    have e2 : boundV a (v : Int) = upI (a * (1000 - (v : Int))) v := by unfold boundV; rw [if_pos ⟨hb, ha, hv0⟩]
    rw [e]; rw [e2] at h2
    have := upI_anti (a := a * (1000 - (v : Int))) (b := a * (1000 - ((v + 1 : Nat) : Int))) (v := v) (u := ((v + 1 : Nat) : Int)) (by omega) (by omega) (bound_mul hb2).1 (Int.mul_le_mul_of_nonneg_left (by omega) a0)
    omega
theorem ventB_mono {a lim : Int} : ∀ (d v : Nat), v + d ≤ 1000 → ventB a lim v = true → ventB a lim (v + d) = true
  | 0, _, _, h => h
  | d + 1, v, hd, h => by
    have := ventB_up (v := v + d) (by omega) (ventB_mono d v (by omega) h)
    exact this

set_option maxRecDepth 100000 in
set_option maxHeartbeats 1000000 in
theorem vent1_any (b2 b3 : Nat) (a lim : Int) (v : Nat) (w : World) (h2 : w.cell? ⟨b2, 0, none⟩ = some (.int .i64 a)) (h3 : w.cell? ⟨b3, 0, none⟩ = some (.int .i64 lim)) (ha : 0 ≤ a ∧ a ≤ 1073741824) :
    Calls Try.prog 66 #[.int .i64 v, .pointer (some ⟨b2, 0, none⟩), .pointer (some ⟨b3, 0, none⟩)] w fun e w' => e = .returned (.bool (ventB a lim v)) ∧ w = w' := by
  have B := Lib.hid (Bound_any a v w)
  have r := boundV_range a v
  have VB := Lib.hid (show ventB a lim v = (decide (boundE a v = 0) && decide (boundV a v + a ≤ lim)) from rfl)
  obtain ⟨bv, hbv⟩ : ∃ bv, boundV a v = bv := ⟨_, rfl⟩
  obtain ⟨be, hbe⟩ : ∃ be, boundE a v = be := ⟨_, rfl⟩
  rw [hbv, hbe] at B VB
  rw [hbv] at r
  clear hbv hbe
  rw [VB.out]
  clear VB
  by_cases h : be = 0
  · have he : (be == 0) = true := by simpa using h
    by_cases hl : bv + a ≤ lim
    · have e : (decide (be = 0) && decide (bv + a ≤ lim)) = true := by simp [h, hl]
      rw [e]; clear e h
      go_enter Try.func66, Try.ntmps66
      go_wp2_with fail
      refine B.out.mono ?_
      rintro e w1 ⟨rfl, rfl⟩
      go_wp2_with fail
      go_ret
      exact ⟨rfl, rfl⟩
    · have e : (decide (be = 0) && decide (bv + a ≤ lim)) = false := by simp [hl]
      rw [e]; clear e h
      go_enter Try.func66, Try.ntmps66
      go_wp2_with fail
      refine B.out.mono ?_
      rintro e w1 ⟨rfl, rfl⟩
      go_wp2_with fail
      go_ret
      exact ⟨by show Ending.returned (.bool (decide (bv + a ≤ lim))) = _; rw [decide_eq_false (by omega)], rfl⟩
  · have he : (be == 0) = false := by simpa using h
    have e : (decide (be = 0) && decide (bv + a ≤ lim)) = false := by simp [h]
    rw [e]; clear e h
    go_enter Try.func66, Try.ntmps66
    go_wp2_with fail
    refine B.out.mono ?_
    rintro e w1 ⟨rfl, rfl⟩
    go_wp2_with fail
    go_ret
    exact ⟨rfl, rfl⟩

/-- the least vent that is enough -/
def ventN (a lim : Int) : Nat := okN (fun i => !ventB a lim i) 1001
theorem okN_unique {p : Nat → Bool} {n i : Nat} (hi : i ≤ n) (h1 : ∀ t, t < i → p t = true) (h2 : i < n → p i = false) : i = okN p n := by
  have l := okN_le p n
  rcases Nat.lt_trichotomy i (okN p n) with h | h | h
  · have := okN_lt p n i h
    rw [h2 (by omega)] at this; cases this
  · exact h
  · have := h1 _ h
    rw [okN_bad p n (by omega)] at this; cases this

set_option maxRecDepth 100000 in
set_option maxHeartbeats 1000000 in
theorem sortSearch_any (b2 b3 : Nat) (a lim : Int) (w : World) (h2 : w.cell? ⟨b2, 0, none⟩ = some (.int .i64 a)) (h3 : w.cell? ⟨b3, 0, none⟩ = some (.int .i64 lim)) (ha : 0 ≤ a ∧ a ≤ 1073741824) :
    Calls Try.prog 65 #[.int .i64 1001, .func (.func 66) #[] #[.pointer (some ⟨b2, 0, none⟩), .pointer (some ⟨b3, 0, none⟩)]] w fun e w' => e = .returned (.int .i64 (ventN a lim)) ∧ w = w' := by
  have V := Lib.hid (fun v => vent1_any b2 b3 a lim v w h2 h3 ha)
  clear h2 h3
  go_enter Try.func65, Try.ntmps65
  go_wp2
  go_loop [5, 6] (fun p q => ∃ i j : Nat, i ≤ j ∧ j ≤ 1001 ∧ p = .int .i64 i ∧ q = .int .i64 j ∧ (∀ t, t < i → (!ventB a lim t) = true) ∧ (j < 1001 → (!ventB a lim j) = false)) (fun p q => (intOf q - intOf p).toNat)
  case atStart => exact ⟨0, 1001, Nat.zero_le _, Nat.le_refl _, rfl, rfl, fun _ h => by omega, fun h => by omega⟩
  case round =>
    obtain ⟨i, j, hij, hjn, rfl, rfl, h1, h2⟩ := hrel
    have K1 := Lib.hid h1; clear h1
    have K2 := Lib.hid h2; clear h2
    by_cases hlt : i < j
    · have VM := V.out ((i + j) / 2)
      cases hx : ventB a lim ((i + j) / 2) with
      | false =>
        rw [hx] at VM
        have HV := Lib.hid VM
        have HX := Lib.hid hx; clear hx VM
        go_wp2_with ((refine HV.out.mono ?_; rintro e w' ⟨rfl, rfl⟩))
        go_round
        case rel =>
          refine ⟨(i + j) / 2 + 1, j, by omega, by omega, by go_num, rfl, fun t ht => ?_, K2.out⟩
          cases hy : ventB a lim t with
          | false => rfl
          | true =>
            have := ventB_mono ((i + j) / 2 - t) t (by omega) hy
            rw [show t + ((i + j) / 2 - t) = (i + j) / 2 by omega, HX.out] at this
            cases this
        case measure => simp [intOf]; omega
      | true =>
        rw [hx] at VM
        have HV := Lib.hid VM
        have HX := Lib.hid hx; clear hx VM
        go_wp2_with ((refine HV.out.mono ?_; rintro e w' ⟨rfl, rfl⟩))
        go_round
        case rel => exact ⟨i, (i + j) / 2, by omega, by omega, rfl, by go_num, K1.out, fun _ => by rw [HX.out]; rfl⟩
        case measure => simp [intOf]; omega
    · obtain rfl : i = j := by omega
      have HI := Lib.hid (okN_unique (p := fun i => !ventB a lim i) hjn K1.out K2.out)
      go_wp2
      go_ret
      exact ⟨by unfold ventN; rw [← HI.out]; rfl, rfl⟩

def ventE (a lim : Int) : Int := if inB a 0 1073741824 = true ∧ inB lim 0 1073741824 = true then (if 1000 < ventN a lim then 12 else 0) else 2
def ventV (a lim : Int) : Int := if ventE a lim = 0 then ventN a lim else 0

set_option maxRecDepth 100000 in
set_option maxHeartbeats 1000000 in
theorem Vent_any (a lim : Int) (w : World) : Calls Try.prog 31 #[.int .i64 a, .int .i64 lim] w fun e w' => e = .returned (.tuple #[.int .i64 (ventV a lim), .int .i64 (ventE a lim)]) ∧ Below w.heap.size w w' := by
  obtain ⟨W1, hW1⟩ : ∃ W1, (w.alloc (.cells #[.int .i64 a] 3)).alloc (.cells #[.int .i64 lim] 3) = W1 := ⟨_, rfl⟩
  have hBc : Below w.heap.size w W1 := by rw [← hW1]; exact (below_alloc _ _).alloc (by simp) _
  have zc0 : W1.heap[w.heap.size]? = some (.cells #[.int .i64 a] 3 (0, 0)) := by rw [← hW1]; exact alloc_keep (alloc_at rfl)
  have zc1 : W1.heap[w.heap.size + 1]? = some (.cells #[.int .i64 lim] 3 (0, 0)) := by rw [← hW1]; exact alloc_at (by simp)
  have c00 : W1.cell? ⟨w.heap.size, 0, none⟩ = some (.int .i64 a) := cell_of_block zc0 0 (by simp)
  have c10 : W1.cell? ⟨w.heap.size + 1, 0, none⟩ = some (.int .i64 lim) := cell_of_block zc1 0 (by simp)
  have lc0 := (Array.getElem?_eq_some_iff.1 zc0).1
  have lc1 := (Array.getElem?_eq_some_iff.1 zc1).1
  clear zc0 zc1
  have HBc := Lib.hid hBc; clear hBc
  have HWc := Lib.hid hW1; clear hW1
  have hmf : ∀ (fn : Fn) (first cap : Array Value) (w : World), (Instr.makeFunc fn first cap).run Try.prog w = .ok (.func fn first cap) w := fun _ _ _ _ => rfl
  cases h1 : inB a 0 1073741824 with
  | false =>
    have e1 : ventE a lim = 2 := by unfold ventE; rw [if_neg (by rw [h1]; simp)]
    have e2 : ventV a lim = 0 := by unfold ventV; rw [e1]; rfl
    rw [e1, e2]
    have T1 := Lib.hid h1; clear h1 e1 e2
    go_enter Try.func31, Try.ntmps31
    go_upto_region 1 with (fail)
    rw [HWc.out]
    go_wp2_with fail
    refine (within_b a 0 1073741824 _ T1.out).mono ?_
    rintro e w1 ⟨rfl, rfl⟩
    go_wp2_with fail
    go_ret2
    exact ⟨rfl, HBc.out⟩
  | true =>
    cases h2 : inB lim 0 1073741824 with
    | false =>
      have e1 : ventE a lim = 2 := by unfold ventE; rw [if_neg (by rw [h2]; simp)]
      have e2 : ventV a lim = 0 := by unfold ventV; rw [e1]; rfl
      rw [e1, e2]
      have T1 := Lib.hid h1; have T2 := Lib.hid h2; clear h1 h2 e1 e2
      go_enter Try.func31, Try.ntmps31
      go_upto_region 1 with (fail)
      rw [HWc.out]
      go_wp2_with fail
      refine (within_b a 0 1073741824 _ T1.out).mono ?_
      rintro e w1 ⟨rfl, rfl⟩
      go_wp2_with fail
      refine (within_b lim 0 1073741824 _ T2.out).mono ?_
      rintro e w1 ⟨rfl, rfl⟩
      go_wp2_with fail
      go_ret2
      exact ⟨rfl, HBc.out⟩
    | true =>
      have S := sortSearch_any w.heap.size (w.heap.size + 1) a lim W1 c00 c10 (inB_t.1 h1)
      by_cases hn : 1000 < ventN a lim
      · have e1 : ventE a lim = 12 := by unfold ventE; rw [if_pos ⟨h1, h2⟩, if_pos hn]
        have e2 : ventV a lim = 0 := by unfold ventV; rw [e1]; rfl
        rw [e1, e2]
        obtain ⟨N, hN⟩ : ∃ N, ventN a lim = N := ⟨_, rfl⟩
        rw [hN] at S hn
        have HS := Lib.hid S
        have T1 := Lib.hid h1; have T2 := Lib.hid h2; clear h1 h2 e1 e2 S hN
        go_enter Try.func31, Try.ntmps31
        go_upto_region 1 with (fail)
        rw [HWc.out]
        go_wp2_with fail
        refine (within_b a 0 1073741824 _ T1.out).mono ?_
        rintro e w1 ⟨rfl, rfl⟩
        go_wp2_with fail
        refine (within_b lim 0 1073741824 _ T2.out).mono ?_
        rintro e w1 ⟨rfl, rfl⟩
        go_wp2_with fail
        refine (HS.out).mono ?_
        rintro e w1 ⟨rfl, rfl⟩
        go_wp2_with fail
        go_ret2
        exact ⟨rfl, HBc.out⟩
      · have e1 : ventE a lim = 0 := by unfold ventE; rw [if_pos ⟨h1, h2⟩, if_neg hn]
        have e2 : ventV a lim = ventN a lim := by unfold ventV; rw [if_pos e1]
        rw [e1, e2]
        obtain ⟨N, hN⟩ : ∃ N, ventN a lim = N := ⟨_, rfl⟩
        rw [hN] at S hn ⊢
        have HS := Lib.hid S
        have T1 := Lib.hid h1; have T2 := Lib.hid h2; clear h1 h2 e1 e2 S hN
        go_enter Try.func31, Try.ntmps31
        go_upto_region 1 with (fail)
        rw [HWc.out]
        go_wp2_with fail
        refine (within_b a 0 1073741824 _ T1.out).mono ?_
        rintro e w1 ⟨rfl, rfl⟩
        go_wp2_with fail
        refine (within_b lim 0 1073741824 _ T2.out).mono ?_
        rintro e w1 ⟨rfl, rfl⟩
        go_wp2_with fail
        refine (HS.out).mono ?_
        rintro e w1 ⟨rfl, rfl⟩
        go_wp2_with fail
        go_ret2
        exact ⟨rfl, HBc.out⟩
end Go.Proofs.Ytecbacbecopbeaa
