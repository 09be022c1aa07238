/- StillForever: the walk of the law where there is no error: Cycle tells a run before the 60th. No conditions beyond each theorem's own. -/
import Derived.Test.YtnmldophadanbaaLg
set_option linter.unusedVariables false
set_option linter.unusedSimpArgs false
set_option linter.unusedSectionVars false
set_option linter.constructorNameAsVariable false
namespace Go.Proofs.Ytnmldophadanbaa
open Go.RowKit

attribute [local go_sem] gw_cell gw_frozen gw_size


set_option maxRecDepth 100000 in
set_option maxHeartbeats 16000000 in
theorem forever_ok1 (fl fh kl kh s l m : Int) (a : Option Addr) (n c : Nat) (Y : Nat → Int) (w : World) (hE : cycErr fl fh kl kh s l = 0) (hY : NumsAt .u32 w a n Y) (hr : ∀ i, i < n → 0 ≤ Y i ∧ Y i ≤ 4294967295) (hn : n ≤ 9223372036854775807) (hm : In64 m) (i : Nat) (hi : CycEnd fh kh s l i) (hl : l < cycF fh kh s i) (hi60 : i < 60) :
    Calls Try.prog 4 #[.agg #[.int .i64 fl, .int .i64 fh], .agg #[.int .i64 kl, .int .i64 kh], .int .i64 s, .int .i64 l, .int .i64 m, .slice a n c] w (True1 w) := by
  obtain ⟨e1, e2, e3, e4⟩ := cyc_valid hE
  have v1 := spanB_t.1 e1
  have v2 := spanB_t.1 e2
  have v3 := inB_t.1 e3
  have v4 := inB_t.1 e4
  obtain ⟨hm1, hm2⟩ := hm
  obtain ⟨W2, hW2⟩ : ∃ W2, (w.alloc (.cells #[.int .i64 fl, .int .i64 fh] 27)).alloc (.cells #[.int .i64 kl, .int .i64 kh] 27) = W2 := ⟨_, rfl⟩
  have T2 : Two w W2 fl fh kl kh := by rw [← hW2]; exact two_of w fl fh kl kh _
  have hW := cycle_ok fl fh kl kh s l W2 hE i hi.1 hi.2
  rw [show cycRun fh kh s l i = i by unfold cycRun; rw [if_pos hl]] at hW
  have hii : (i : Int) ≤ 2147483648 := by
    have : ∀ t : Nat, t ≤ i → (t : Int) ≤ cycF fh kh s t := fun t => by
      induction t with
      | zero => intro _; exact (inB_t.1 e3).1
      | succ t ih => intro ht; have := ih (by omega); have := (hi.1 t (by omega)).2; omega
    have := this i (Nat.le_refl _)
    have := cyc_bound (inB_t.1 e3).1 (inB_t.1 e3).2 (inB_t.1 e4).2 (show 0 ≤ fh by omega) (by omega) (show 0 ≤ kh by omega) (by omega) i hi.1
    omega
  have HB4 := Lib.hid (fun k (hk : k ≤ i) => cyc_before hi.1 (i - k) k (by omega))
  have HJ := Lib.hid hi.1
  have bdi := cyc_bound (l := l) v3.1 v3.2 v4.2 (show 0 ≤ fh by omega) v1.2.2 (show 0 ≤ kh by omega) v2.2.2 i hi.1
  have BND := Lib.hid (fun k (hk : cycF fh kh s k ≤ 1073741824) (h0 : 0 ≤ cycF fh kh s k) => cycF_next h0 hk (show 0 ≤ fh by omega) v1.2.2 (show 0 ≤ kh by omega) v2.2.2)
  have RET := Lib.hid (fun k => retF_le (n := n) (Y := Y) v1.1 v1.2.1 v2.1 v2.2.1 v3.1 k)
  have E1 := Lib.hid e1; clear e1
  have E2 := Lib.hid e2; clear e2
  have E3 := Lib.hid e3; clear e3
  clear e4 hE hi
  have HW := Lib.hid (Calls.grown hW); clear hW
  have HW2 := Lib.hid hW2; clear hW2
  have HY := Lib.hid (hY.below T2.low); clear hY
  have HR := Lib.hid hr; clear hr
  obtain ⟨a0, a1, b0, b1, sz, low⟩ := T2
  have LOW := Lib.hid low; clear low
  have s0 : w.heap.size < W2.heap.size := by omega
  have s1 : w.heap.size + 1 < W2.heap.size := by omega
  by_cases big : 1048576 < fh ∨ 1048576 < s ∨ n = 0
  · have big' : 1048576 < fh ∨ (fh ≤ 1048576 ∧ 1048576 < s) ∨ (fh ≤ 1048576 ∧ s ≤ 1048576 ∧ n = 0) := by omega
    clear big
    rcases big' with h | ⟨h, h'⟩ | ⟨h, h', rfl⟩
    all_goals
      go_enter Try.func4, Try.ntmps4
      go_wp2_with fail
      rw [HW2.out]
      refine HW.out.mono ?_
      clear HW
      rintro e w1 ⟨rfl, y, rfl⟩
      go_wp2_with fail
      refine (alive_any _).mono ?_
      rintro e w1 ⟨rfl, hb⟩
      have HB := Lib.hid (thru hb (LOW.out.gw y)); clear hb
      go_wp2_with fail
      go_ret
      exact ⟨rfl, HB.out⟩
  · have n0 : ¬ n = 0 := by omega
    have f20 : fh ≤ 1048576 := by omega
    have s20 : s ≤ 1048576 := by omega
    clear big
    obtain ⟨b, off, rfl, hb, hc⟩ : ∃ b off, a = some ⟨b, off, none⟩ ∧ b < W2.heap.size ∧ ∀ i, i < n → W2.cell? ⟨b, off + i, none⟩ = some (.int .u32 (Y i)) := by
      rcases HY.out with h | h
      · exact absurd h n0
      · exact h
    clear HY
    have HC := Lib.hid hc; clear hc
    have n1 : 0 < n := by omega
    have n2 : ((n : Int) == 0) = false := by simp; omega
    clear n0
    go_enter Try.func4, Try.ntmps4
    go_wp2_with fail
    rw [HW2.out]
    refine HW.out.mono ?_
    clear HW
    rintro e w1 ⟨rfl, y, rfl⟩
    go_wp2_with fail
    go_loopw [16, 17, 18] (fun f g j wr => ∃ k : Nat, k ≤ i ∧ j = .int .i64 k ∧ f = .int .i64 (retF fl fh kl kh s n Y k) ∧ g = .int .i64 (cycF fh kh s k) ∧ ∃ x, wr = gw W2 x) (fun _ _ j _ => 60 - (intOf j).toNat)
    case atStart => exact ⟨0, by omega, rfl, rfl, rfl, y, rfl⟩
    case round =>
      obtain ⟨k, hk, rfl, rfl, rfl, x, rfl⟩ := hrel
      obtain ⟨r1, r2⟩ := RET.out k
      by_cases hk2 : k < i
      · skip
        have gm := HB4.out k (by omega)
        have gl : cycF fh kh s k ≤ l := (HJ.out k (by omega)).1
        have nk : ((k : Int) == (i : Int)) = false := by simp; omega
        obtain ⟨p0, p1, p2, p3⟩ := BND.out k (by omega) (by omega)
        obtain ⟨q0, em0, ml0, HQ0⟩ : ∃ q : Nat, ((k : Int) % (n : Int)) = q ∧ q < n ∧ Hid (k % n = q) := ⟨k % n, emod_nat k n, Nat.mod_lt _ n1, Lib.hid rfl⟩
        obtain ⟨q1, em1, ml1, HQ1⟩ : ∃ q : Nat, (((k : Int) + 1) % (n : Int)) = q ∧ q < n ∧ Hid ((k + 1) % n = q) := ⟨(k + 1) % n, emod_nat (k + 1) n, Nat.mod_lt _ n1, Lib.hid rfl⟩
        obtain ⟨q2, em2, ml2, HQ2⟩ : ∃ q : Nat, (((k : Int) + 2) % (n : Int)) = q ∧ q < n ∧ Hid ((k + 2) % n = q) := ⟨(k + 2) % n, emod_nat (k + 2) n, Nat.mod_lt _ n1, Lib.hid rfl⟩
        have c0 := HC.out q0 ml0
        have c1 := HC.out q1 ml1
        have c2 := HC.out q2 ml2
        have y0 := HR.out q0 ml0
        have y1 := HR.out q1 ml1
        have y2 := HR.out q2 ml2
        have ir0 := innerI_range (b := Y q0) v2.2.1
        have ir1 := innerI_range (b := Y q1) v1.2.1
        obtain ⟨u1, u2⟩ := ret_step (F := fh) (K := kh) r1 r2 (show 0 ≤ innerI fl fh (Y q1) by omega) ir1.2 (show 0 ≤ innerI kl kh (Y q0) by omega) ir0.2
        have HF := Lib.hid (show retF fl fh kl kh s n Y (k + 1) = innerI ((retF fl fh kl kh s n Y k + innerI fl fh (Y q1)) * innerI kl kh (Y q0) / 1000) (((retF fl fh kl kh s n Y k + innerI fl fh (Y q1)) * innerI kl kh (Y q0) + 999) / 1000) (Y q2) by rw [← HQ0.out, ← HQ1.out, ← HQ2.out]; rfl)
        have HG := Lib.hid (show cycF fh kh s (k + 1) = ((cycF fh kh s k + fh) * kh + 999) / 1000 by show upI _ 1000 = _; unfold upI; congr 1; omega)
        go_wp2_with fail
        refine wp_region_gw2 (by kernel_rfl) (by kernel_rfl) ?_
        repeat (go_big_quiet_step ((go_at_call 19; exact Calls.gw_of (inner_any _ _ _ _ (by omega) (by omega) (by omega) (by omega) (by omega)))))
        refine wpQuiet_nil ?_
        rintro _ ⟨z, rfl⟩
        go_wp2_with fail
        refine (Calls.gw_of (inner_any _ _ _ _ (by omega) (by omega) (by omega) (by omega) (by omega))).mono ?_
        rintro e w1 ⟨rfl, z2, rfl⟩
        go_wp2_with fail
        go_roundw
        case rel => exact ⟨k + 1, by omega, by go_num, by rw [HF.out], by rw [HG.out], z2, rfl⟩
        case measure => simp [intOf]; omega
      · obtain rfl : i = k := by omega
        have nk : ((i : Int) == (i : Int)) = true := by simp
        by_cases m1 : m < l
        · skip
          go_wp2_with fail
          refine (alive_any _).mono ?_
          rintro e w1 ⟨rfl, hb⟩
          have HB := Lib.hid (thru hb (LOW.out.gw x)); clear hb
          go_wp2_with fail
          go_ret
          exact ⟨rfl, HB.out⟩
        · by_cases m2 : 1073741824 < m
          · skip
            go_wp2_with fail
            refine (alive_any _).mono ?_
            rintro e w1 ⟨rfl, hb⟩
            have HB := Lib.hid (thru hb (LOW.out.gw x)); clear hb
            go_wp2_with fail
            go_ret
            exact ⟨rfl, HB.out⟩
          · have HE2 := Lib.hid (show cycErr fl fh kl kh s m = 0 by unfold cycErr; rw [E1.out, E2.out, E3.out, inB_t.2 ⟨by omega, by omega⟩]; rfl)
            obtain ⟨i2, h2⟩ := cyc_exists fh kh s m
            have hge : i ≤ i2 := by
              rcases Nat.lt_or_ge i2 i with h | h
              · have := HJ.out i2 h
                rcases h2.2 with h3 | h3 <;> omega
              · exact h
            have hC := cycle_ok fl fh kl kh s m (gw W2 x) HE2.out i2 h2.1 h2.2
            have hcr : cycRun fh kh s m i2 = -1 ∨ cycRun fh kh s m i2 = i2 := by unfold cycRun; split; exact .inr rfl; exact .inl rfl
            have HC2 := Lib.hid (Calls.gw_of hC); clear hC
            rcases hcr with hr | hr
            all_goals
              rw [hr] at HC2
              clear hr h2
              go_wp2_with fail
              refine HC2.out.mono ?_
              clear HC2
              rintro e w1 ⟨rfl, y2, rfl⟩
              go_wp2_with fail
              refine (alive_any _).mono ?_
              rintro e w1 ⟨rfl, hb⟩
              have HB := Lib.hid (thru hb (LOW.out.gw y2)); clear hb
              go_wp2_with fail
              go_ret
              exact ⟨rfl, HB.out⟩
end Go.Proofs.Ytnmldophadanbaa
