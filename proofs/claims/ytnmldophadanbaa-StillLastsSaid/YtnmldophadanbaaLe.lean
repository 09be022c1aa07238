/- StillLasts: the walk of the law where there is no error: case 2. No conditions beyond each theorem's own. -/
import Derived.Test.YtnmldophadanbaaLb
set_option linter.unusedVariables false
set_option linter.unusedSimpArgs false
set_option linter.unusedSectionVars false
set_option linter.constructorNameAsVariable false
namespace Go.Proofs.Ytnmldophadanbaa
open Go.RowKit

attribute [local go_sem] gw_cell gw_frozen gw_size


set_option maxRecDepth 100000 in
set_option maxHeartbeats 8000000 in
theorem lasts_ok2 (tl th wl wh l : Int) (a : Option Addr) (n c : Nat) (Y : Nat → Int) (w : World) (hE : wearErr tl th wl wh l = 0) (hY : NumsAt .u32 w a n Y) (hr : ∀ i, i < n → 0 ≤ Y i ∧ Y i ≤ 4294967295) (hn : n ≤ 9223372036854775807)
    (hR : Runs1 tl wh l (runsI tl wh l)) (hQ : Runs1 th wl l (runsI th wl l)) (hle : runsI tl wh l ≤ runsI th wl l) :
    Calls Try.prog 7 #[.agg #[.int .i64 tl, .int .i64 th], .agg #[.int .i64 wl, .int .i64 wh], .int .i64 l, .slice a n c] w (True1 w) := by
  obtain ⟨v1, v2, v3, v4, v5, v6, v7, v8⟩ := lasts_valid hE
  obtain ⟨W2, hW2⟩ : ∃ W2, (w.alloc (.cells #[.int .i64 tl, .int .i64 th] 27)).alloc (.cells #[.int .i64 wl, .int .i64 wh] 27) = W2 := ⟨_, rfl⟩
  have T2 : Two w W2 tl th wl wh := by rw [← hW2]; exact two_of w tl th wl wh _
  have hW := wear_any tl th wl wh l W2 0 hE
  rw [if_pos rfl, if_pos rfl] at hW
  clear hE
  generalize runsI tl wh l = R1 at *
  generalize runsI th wl l = R2 at *
  obtain ⟨k0, k1, k2, k3, k4, k5, k6, k7, k8⟩ := hR
  obtain ⟨q0, q1, q2, q3, q4, q5, q6, q7, q8⟩ := hQ
  have HW := Lib.hid (Calls.grown hW); clear hW
  have HW2 := Lib.hid hW2; clear hW2
  have HY := Lib.hid (hY.below T2.low); clear hY
  have HR := Lib.hid hr; clear hr
  obtain ⟨a0, a1, b0, b1, sz, low⟩ := T2
  have LOW := Lib.hid low; clear low
  have s0 : w.heap.size < W2.heap.size := by omega
  have s1 : w.heap.size + 1 < W2.heap.size := by omega
  by_cases n0 : n = 0
  · subst n0
    go_enter Try.func7, Try.ntmps7
    go_wp2_with fail
    rw [HW2.out]
    refine HW.out.mono ?_
    clear HW
    rintro e w1 ⟨rfl, y, rfl⟩
    go_wp2_with fail
    refine (alive_any _).mono ?_
    rintro e w1 ⟨rfl, hb⟩
    have HB := Lib.hid (thru hb (LOW.out.gw y)); clear hb
    go_wp2_with fail
    go_ret
    exact ⟨rfl, HB.out⟩
  · obtain ⟨b, off, rfl, hb, hc⟩ : ∃ b off, a = some ⟨b, off, none⟩ ∧ b < W2.heap.size ∧ ∀ i, i < n → W2.cell? ⟨b, off + i, none⟩ = some (.int .u32 (Y i)) := by
      rcases HY.out with h | h
      · exact absurd h n0
      · exact h
    clear HY
    have hc0 : W2.cell? ⟨b, off, none⟩ = some (.int .u32 (Y 0)) := hc 0 (by omega)
    have y0 := HR.out 0 (by omega)
    have HC := Lib.hid hc; clear hc
    have n1 : 0 < n := by omega
    have n2 : ((n : Int) == 0) = false := by simp; omega
    have HI := Lib.hid (show innerI tl th (Y 0) = nowI tl th wl wh n Y 0 from rfl)
    clear n0
    go_enter Try.func7, Try.ntmps7
    go_wp2_with fail
    rw [HW2.out]
    refine HW.out.mono ?_
    clear HW
    rintro e w1 ⟨rfl, y, rfl⟩
    go_wp2_with fail
    refine wp_region_gw2 (by kernel_rfl) (by kernel_rfl) ?_
    repeat (go_big_quiet_step ((go_at_call 19; exact Calls.gw_of (inner_any _ _ _ _ (by omega) (by omega) (by omega) (by omega) (by omega)))))
    refine wpQuiet_nil ?_
    rintro _ ⟨z, rfl⟩
    go_wp2_with fail
    rw [HI.out]
    go_loopw [12, 13] (fun now i wr => ∃ k : Nat, k ≤ 101 ∧ i = .int .i64 k ∧ now = .int .i64 (nowI tl th wl wh n Y k) ∧ ∃ x, wr = gw W2 x) (fun _ i _ => 101 - (intOf i).toNat)
    case atStart => exact ⟨0, by omega, rfl, rfl, z, rfl⟩
    case round =>
      obtain ⟨k, hk, rfl, rfl, x, rfl⟩ := hrel
      obtain ⟨nb1, nb2⟩ := now_bound (n := n) (Y := Y) v4 v5 v2 v1 v6 hk
      obtain ⟨q, em, ml, HQ⟩ : ∃ q : Nat, ((k : Int) % (n : Int)) = q ∧ q < n ∧ Hid (k % n = q) := ⟨k % n, emod_nat k n, Nat.mod_lt _ n1, Lib.hid rfl⟩
      by_cases hk2 : k ≤ 100
      · have hcm := HC.out q ml
        have ym := HR.out q ml
        have HI2 := Lib.hid (show nowI tl th wl wh n Y k - innerI wl wh (Y q) = nowI tl th wl wh n Y (k + 1) by rw [← HQ.out]; rfl)
        have ir := innerI_range (b := Y q) v5
        by_cases c1 : (k : Int) ≤ R1
        · have na : l ≤ nowI tl th wl wh n Y k := now_above v5 v2 (by omega) k7 c1
          have c2 : (k : Int) ≤ R2 := by omega
          go_wp2_with fail
          refine wp_region_gw2 (by kernel_rfl) (by kernel_rfl) ?_
          repeat (go_big_quiet_step ((go_at_call 19; exact Calls.gw_of (inner_any _ _ _ _ (by omega) (by omega) (by omega) (by omega) (by omega)))))
          refine wpQuiet_nil ?_
          rintro _ ⟨z, rfl⟩
          go_wp2_with fail
          go_roundw
          case rel => exact ⟨k + 1, by omega, by go_num, by rw [← HI2.out], z, rfl⟩
          case measure => simp [intOf]; omega
        · by_cases c2 : (k : Int) ≤ R2
          · go_wp2_with fail
            refine wp_region_gw2 (by kernel_rfl) (by kernel_rfl) ?_
            repeat (go_big_quiet_step ((go_at_call 19; exact Calls.gw_of (inner_any _ _ _ _ (by omega) (by omega) (by omega) (by omega) (by omega)))))
            refine wpQuiet_nil ?_
            rintro _ ⟨z, rfl⟩
            go_wp2_with fail
            go_roundw
            case rel => exact ⟨k + 1, by omega, by go_num, by rw [← HI2.out], z, rfl⟩
            case measure => simp [intOf]; omega
          · have na : nowI tl th wl wh n Y k < l := now_under v5 v2 v4 q8 (by omega)
            go_wp2_with fail
            refine wp_region_gw2 (by kernel_rfl) (by kernel_rfl) ?_
            repeat (go_big_quiet_step ((go_at_call 19; exact Calls.gw_of (inner_any _ _ _ _ (by omega) (by omega) (by omega) (by omega) (by omega)))))
            refine wpQuiet_nil ?_
            rintro _ ⟨z, rfl⟩
            go_wp2_with fail
            go_roundw
            case rel => exact ⟨k + 1, by omega, by go_num, by rw [← HI2.out], z, rfl⟩
            case measure => simp [intOf]; omega
      · go_wp2_with fail
        refine (alive_any _).mono ?_
        rintro e w1 ⟨rfl, hb⟩
        have HB := Lib.hid (thru hb (LOW.out.gw x)); clear hb
        go_wp2_with fail
        go_ret
        exact ⟨rfl, HB.out⟩
end Go.Proofs.Ytnmldophadanbaa
