/- Contracts of Wear and its function, inner. No conditions beyond each theorem's own. -/
import Derived.Test.YtnmldophadanbaaWp
set_option linter.unusedVariables false
set_option linter.unusedSimpArgs false
set_option linter.unusedSectionVars false
set_option linter.constructorNameAsVariable false
namespace Go.Proofs.Ytnmldophadanbaa
open Go.RowKit

attribute [local go_sem] gw_cell gw_frozen gw_size

def runsI (t w l : Int) : Int := if w = 0 then -1 else (t - l) / w

set_option maxHeartbeats 1000000 in
theorem wear1_any (t w l : Int) (B : Nat) (W : World) (hc : W.cell? ⟨B, 0, none⟩ = some (.int .i64 l)) (h0 : 0 ≤ l) (h1 : l ≤ t) (h2 : t ≤ 1073741824) (h3 : 0 ≤ w) (h4 : w ≤ 1073741824) :
    Calls Try.prog 53 #[.int .i64 t, .int .i64 w, .pointer (some ⟨B, 0, none⟩)] W fun e W' => e = .returned (.int .i64 (runsI t w l)) ∧ W = W' := by
  by_cases hw : w = 0
  · have HR := Lib.hid (show runsI t w l = -1 by unfold runsI; rw [if_pos hw])
    have hb : (w == 0) = true := by simpa using hw
    clear hw
    go_enter Try.func53, Try.ntmps53
    go_wp2
    go_ret
    exact ⟨by rw [HR.out]; rfl, rfl⟩
  · have HR := Lib.hid (show runsI t w l = (t - l) / w by unfold runsI; rw [if_neg hw])
    have hb : (w == 0) = false := by simpa using hw
    go_enter Try.func53, Try.ntmps53
    go_wp2
    go_ret
    exact ⟨by rw [HR.out]; rfl, rfl⟩

def wearErr (tl th wl wh l : Int) : Int := if spanB tl th 0 1073741824 && spanB wl wh 0 1073741824 then (if inB l 0 1073741824 then (if tl < l then 12 else 0) else 2) else 1

set_option maxRecDepth 100000 in
set_option maxHeartbeats 2000000 in
theorem wear_any (tl th wl wh l : Int) (w : World) (x : Int) (hE : wearErr tl th wl wh l = x) :
    Calls Try.prog 26 #[.agg #[.int .i64 tl, .int .i64 th], .agg #[.int .i64 wl, .int .i64 wh], .int .i64 l] w fun e w' =>
      e = .returned (.tuple #[.int .i64 (if x = 0 then runsI tl wh l else 0), .int .i64 (if x = 0 then runsI th wl l else 0), .int .i64 x]) ∧ Below w.heap.size w w' := by
  have hmf : ∀ (fn : Fn) (first cap : Array Value) (w : World), (Instr.makeFunc fn first cap).run Try.prog w = .ok (.func fn first cap) w := fun _ _ _ _ => rfl
  cases a1 : spanB tl th 0 1073741824 with
  | false =>
    obtain rfl : x = 1 := by rw [← hE]; unfold wearErr; rw [a1]; rfl
    clear hE
    have A1 := Lib.hid a1; clear a1
    go_enter Try.func26, Try.ntmps26
    go_wp2_with fail
    refine (Calls.grown (isSpan_b _ _ _ _ _ A1.out)).mono ?_
    rintro e w1 ⟨rfl, x, rfl⟩
    go_wp2_with fail
    go_ret3
    exact ⟨rfl, (((((Below.refl _ w).alloc (Nat.le_refl _) _).alloc (by simp) _).alloc (by simp; omega) _).gw x)⟩
  | true =>
    cases a2 : spanB wl wh 0 1073741824 with
    | false =>
      obtain rfl : x = 1 := by rw [← hE]; unfold wearErr; rw [a1, a2]; rfl
      clear hE
      have A1 := Lib.hid a1; clear a1
      have A2 := Lib.hid a2; clear a2
      go_enter Try.func26, Try.ntmps26
      go_wp2_with fail
      refine (Calls.grown (isSpan_b _ _ _ _ _ A1.out)).mono ?_
      rintro e w1 ⟨rfl, x, rfl⟩
      go_wp2_with fail
      refine (Calls.gw_of (isSpan_b _ _ _ _ _ A2.out)).mono ?_
      rintro e w1 ⟨rfl, y, rfl⟩
      go_wp2_with fail
      go_ret3
      exact ⟨rfl, (((((Below.refl _ w).alloc (Nat.le_refl _) _).alloc (by simp) _).alloc (by simp; omega) _).gw y)⟩
    | true =>
      have b1 := spanB_t.1 a1
      have b2 := spanB_t.1 a2
      have A1 := Lib.hid a1
      have A2 := Lib.hid a2
      cases a3 : inB l 0 1073741824 with
      | false =>
        obtain rfl : x = 2 := by rw [← hE]; unfold wearErr; rw [a1, a2, a3]; rfl
        have A3 := Lib.hid a3; clear a1 a2 a3 hE
        go_enter Try.func26, Try.ntmps26
        go_wp2_with fail
        refine (Calls.grown (isSpan_b _ _ _ _ _ A1.out)).mono ?_
        rintro e w1 ⟨rfl, x, rfl⟩
        go_wp2_with fail
        refine (Calls.gw_of (isSpan_b _ _ _ _ _ A2.out)).mono ?_
        rintro e w1 ⟨rfl, y, rfl⟩
        go_wp2_with fail
        refine (within_b _ _ _ _ A3.out).mono ?_
        rintro e w1 ⟨rfl, rfl⟩
        go_wp2_with fail
        go_ret3
        exact ⟨rfl, (((((Below.refl _ w).alloc (Nat.le_refl _) _).alloc (by simp) _).alloc (by simp; omega) _).gw y)⟩
      | true =>
        have b3 := inB_t.1 a3
        by_cases hl : tl < l
        · obtain rfl : x = 12 := by rw [← hE]; unfold wearErr; rw [a1, a2, a3, if_pos hl]; rfl
          have A3 := Lib.hid a3; clear a1 a2 a3 hE
          go_enter Try.func26, Try.ntmps26
          go_wp2_with fail
          refine (Calls.grown (isSpan_b _ _ _ _ _ A1.out)).mono ?_
          rintro e w1 ⟨rfl, x, rfl⟩
          go_wp2_with fail
          refine (Calls.gw_of (isSpan_b _ _ _ _ _ A2.out)).mono ?_
          rintro e w1 ⟨rfl, y, rfl⟩
          go_wp2_with fail
          refine (within_b _ _ _ _ A3.out).mono ?_
          rintro e w1 ⟨rfl, rfl⟩
          go_wp2_with fail
          go_ret3
          exact ⟨rfl, (((((Below.refl _ w).alloc (Nat.le_refl _) _).alloc (by simp) _).alloc (by simp; omega) _).gw y)⟩
        · obtain rfl : x = 0 := by rw [← hE]; unfold wearErr; rw [a1, a2, a3, if_neg hl]; rfl
          have A3 := Lib.hid a3; clear a1 a2 a3 hE
          go_enter Try.func26, Try.ntmps26
          go_wp2_with fail
          refine (Calls.grown (isSpan_b _ _ _ _ _ A1.out)).mono ?_
          rintro e w1 ⟨rfl, x, rfl⟩
          go_wp2_with fail
          refine (Calls.gw_of (isSpan_b _ _ _ _ _ A2.out)).mono ?_
          rintro e w1 ⟨rfl, y, rfl⟩
          go_wp2_with fail
          refine (within_b _ _ _ _ A3.out).mono ?_
          rintro e w1 ⟨rfl, rfl⟩
          go_wp2_with fail
          refine wp_region_gw2 (by kernel_rfl) (by kernel_rfl) ?_
          repeat (go_big_quiet_step ((go_at_call 53; exact Calls.gw_of_same (wear1_any _ _ l _ _ (by simp [go_sem]) (by omega) (by omega) (by omega) (by omega) (by omega)))))
          refine wpQuiet_nil ?_
          rintro _ ⟨z, rfl⟩
          go_wp2_with fail
          go_ret3
          exact ⟨rfl, (((((Below.refl _ w).alloc (Nat.le_refl _) _).alloc (by simp) _).alloc (by simp; omega) _).gw z)⟩

def innerI (lo hi b : Int) : Int := lo + b % (hi - lo + 1)
theorem innerI_range {lo hi b : Int} (h : lo ≤ hi) : lo ≤ innerI lo hi b ∧ innerI lo hi b ≤ hi := by
  unfold innerI
  have h1 := Int.emod_nonneg b (show hi - lo + 1 ≠ 0 by omega)
  have h2 := Int.emod_lt_of_pos b (show 0 < hi - lo + 1 by omega)
  omega

set_option maxHeartbeats 1000000 in
theorem inner_any (lo hi b : Int) (w : World) (h0 : -1000000000000000 ≤ lo) (h1 : lo ≤ hi) (h2 : hi ≤ 1000000000000000) (h3 : 0 ≤ b) (h4 : b ≤ 4294967295) :
    Calls Try.prog 19 #[.agg #[.int .i64 lo, .int .i64 hi], .int .u32 b] w fun e w' => e = .returned (.int .i64 (innerI lo hi b)) ∧ Below w.heap.size w w' := by
  have hr := innerI_range (b := b) h1
  unfold innerI at hr ⊢
  have hz : ¬ hi - lo + 1 = 0 := by omega
  go_enter Try.func19, Try.ntmps19
  go_wp2_with fail
  refine wp_region_gw (by kernel_rfl) (by kernel_rfl) ?_
  repeat (go_big_quiet_step (fail))
  refine wpQuiet_nil ?_
  rintro _ ⟨z, rfl⟩
  go_wp2_with fail
  go_ret
  exact ⟨rfl, ((Below.refl _ w).alloc (Nat.le_refl _) _).gw z⟩
end Go.Proofs.Ytnmldophadanbaa
