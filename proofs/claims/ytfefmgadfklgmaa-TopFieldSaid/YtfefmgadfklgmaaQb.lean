/- Contracts of the reference's test of malt, of some; TopField where it is short. No conditions beyond each theorem's own. -/
import Derived.Test.YtfefmgadfklgmaaJa
import Derived.Test.YtfefmgadfklgmaaQa
import Derived.Test.YtfefmgadfklgmaaBy
import Derived.Test.YtfefmgadfklgmaaGi
set_option linter.unusedVariables false
set_option linter.unusedSimpArgs false
set_option linter.unusedSectionVars false
set_option linter.constructorNameAsVariable false
namespace Go.Proofs.Ytfefmgadfklgmaa
open Go.RowKit

attribute [local go_sem] gw_cell gw_frozen gw_size
set_option maxHeartbeats 400000 in
theorem rspan2_any (lo hi high : Int) (w : World) :
    Calls Try.prog 13 #[.agg #[.int .i64 lo, .int .i64 hi], .int .i64 high] w fun e w' => e = .returned (.bool (spanB lo hi 0 high)) ∧ Below w.heap.size w w' := by
  by_cases h0 : 0 ≤ lo
  · by_cases h1 : lo ≤ hi
    · by_cases h2 : hi ≤ high
      · have hb : spanB lo hi 0 high = true := by simp [spanB, h0, h1, h2]
        rw [hb]; clear hb
        go_enter Try.func13, Try.ntmps13
        go_wp2
        go_ret
        exact ⟨rfl, (Below.refl _ _).alloc (Nat.le_refl _) _⟩
      · have hb : spanB lo hi 0 high = false := by simp [spanB, h2]
        rw [hb]; clear hb
        go_enter Try.func13, Try.ntmps13
        go_wp2
        go_ret
        exact ⟨rfl, (Below.refl _ _).alloc (Nat.le_refl _) _⟩
    · have hb : spanB lo hi 0 high = false := by simp [spanB, h1]
      rw [hb]; clear hb
      go_enter Try.func13, Try.ntmps13
      go_wp2
      go_ret
      exact ⟨rfl, (Below.refl _ _).alloc (Nat.le_refl _) _⟩
  · have hb : spanB lo hi 0 high = false := by simp [spanB, h0]
    rw [hb]; clear hb
    go_enter Try.func13, Try.ntmps13
    go_wp2
    go_ret
    exact ⟨rfl, (Below.refl _ _).alloc (Nat.le_refl _) _⟩
theorem rspan2_b {b : Bool} (lo hi high : Int) (w : World) (h : spanB lo hi 0 high = b) :
    Calls Try.prog 13 #[.agg #[.int .i64 lo, .int .i64 hi], .int .i64 high] w fun e w' => e = .returned (.bool b) ∧ Below w.heap.size w w' := h ▸ rspan2_any lo hi high w

set_option maxHeartbeats 1000000 in
theorem rmalt_any (dl dh wl wh pl ph : Int) (w : World) :
    Calls Try.prog 4 #[.agg #[.int .i64 dl, .int .i64 dh, .int .i64 wl, .int .i64 wh, .int .i64 pl, .int .i64 ph]] w fun e w' => e = .returned (.bool (L2.maltB dl dh wl wh pl ph)) ∧ Below w.heap.size w w' := by
  unfold L2.maltB
  obtain ⟨W1, hW1⟩ : ∃ W1, w.alloc (.cells #[.int .i64 dl, .int .i64 dh, .int .i64 wl, .int .i64 wh, .int .i64 pl, .int .i64 ph] 25) = W1 := ⟨_, rfl⟩
  have hBc : Below w.heap.size w W1 := by rw [← hW1]; exact below_alloc _ _
  have zc0 : W1.heap[w.heap.size]? = some (.cells #[.int .i64 dl, .int .i64 dh, .int .i64 wl, .int .i64 wh, .int .i64 pl, .int .i64 ph] 25 (0, 0)) := by rw [← hW1]; exact alloc_at rfl
  have c00 : W1.cell? ⟨w.heap.size, 0, none⟩ = some (.int .i64 dl) := cell_of_block zc0 0 (by simp)
  have c01 : W1.cell? ⟨w.heap.size, 1, none⟩ = some (.int .i64 dh) := cell_of_block zc0 1 (by simp)
  have c02 : W1.cell? ⟨w.heap.size, 2, none⟩ = some (.int .i64 wl) := cell_of_block zc0 2 (by simp)
  have c03 : W1.cell? ⟨w.heap.size, 3, none⟩ = some (.int .i64 wh) := cell_of_block zc0 3 (by simp)
  have c04 : W1.cell? ⟨w.heap.size, 4, none⟩ = some (.int .i64 pl) := cell_of_block zc0 4 (by simp)
  have c05 : W1.cell? ⟨w.heap.size, 5, none⟩ = some (.int .i64 ph) := cell_of_block zc0 5 (by simp)
  have lc0 := (Array.getElem?_eq_some_iff.1 zc0).1
  clear zc0
  have HBc := Lib.hid hBc; clear hBc
  have HWc := Lib.hid hW1; clear hW1
  cases e1 : spanB dl dh 0 1099511627776 with
  | false =>
    simp only [Bool.false_and, Bool.true_and, Bool.and_false, Bool.and_true]
    have S1 := Lib.hid (fun W => rspan2_b dl dh 1099511627776 W e1)
    clear e1
    go_enter Try.func4, Try.ntmps4
    go_upto_region 1 with (fail)
    rw [HWc.out]
    go_wp2_with fail
    refine (Calls.grown (S1.out _)).mono ?_
    rintro e w1 ⟨rfl, z1, rfl⟩
    go_wp2_with fail
    go_ret
    exact ⟨rfl, HBc.out.gw _⟩
  | true =>
    cases e2 : spanB wl wh 0 1099511627776 with
    | false =>
      simp only [Bool.false_and, Bool.true_and, Bool.and_false, Bool.and_true]
      have S1 := Lib.hid (fun W => rspan2_b dl dh 1099511627776 W e1)
      have S2 := Lib.hid (fun W => rspan2_b wl wh 1099511627776 W e2)
      clear e1 e2
      go_enter Try.func4, Try.ntmps4
      go_upto_region 1 with (fail)
      rw [HWc.out]
      go_wp2_with fail
      refine (Calls.grown (S1.out _)).mono ?_
      rintro e w1 ⟨rfl, z1, rfl⟩
      go_wp2_with fail
      refine (Calls.gw_of (S2.out _)).mono ?_
      rintro e w1 ⟨rfl, z2, rfl⟩
      go_wp2_with fail
      go_ret
      exact ⟨rfl, HBc.out.gw _⟩
    | true =>
      cases e3 : spanB pl ph 0 1099511627776 with
      | false =>
        simp only [Bool.false_and, Bool.true_and, Bool.and_false, Bool.and_true]
        have S1 := Lib.hid (fun W => rspan2_b dl dh 1099511627776 W e1)
        have S2 := Lib.hid (fun W => rspan2_b wl wh 1099511627776 W e2)
        have S3 := Lib.hid (fun W => rspan2_b pl ph 1099511627776 W e3)
        clear e1 e2 e3
        go_enter Try.func4, Try.ntmps4
        go_upto_region 1 with (fail)
        rw [HWc.out]
        go_wp2_with fail
        refine (Calls.grown (S1.out _)).mono ?_
        rintro e w1 ⟨rfl, z1, rfl⟩
        go_wp2_with fail
        refine (Calls.gw_of (S2.out _)).mono ?_
        rintro e w1 ⟨rfl, z2, rfl⟩
        go_wp2_with fail
        refine (Calls.gw_of (S3.out _)).mono ?_
        rintro e w1 ⟨rfl, z3, rfl⟩
        go_wp2_with fail
        go_ret
        exact ⟨rfl, HBc.out.gw _⟩
      | true =>
        simp only [Bool.false_and, Bool.true_and, Bool.and_false, Bool.and_true]
        have S1 := Lib.hid (fun W => rspan2_b dl dh 1099511627776 W e1)
        have S2 := Lib.hid (fun W => rspan2_b wl wh 1099511627776 W e2)
        have S3 := Lib.hid (fun W => rspan2_b pl ph 1099511627776 W e3)
        clear e1 e2 e3
        go_enter Try.func4, Try.ntmps4
        go_upto_region 1 with (fail)
        rw [HWc.out]
        go_wp2_with fail
        refine (Calls.grown (S1.out _)).mono ?_
        rintro e w1 ⟨rfl, z1, rfl⟩
        go_wp2_with fail
        refine (Calls.gw_of (S2.out _)).mono ?_
        rintro e w1 ⟨rfl, z2, rfl⟩
        go_wp2_with fail
        refine (Calls.gw_of (S3.out _)).mono ?_
        rintro e w1 ⟨rfl, z3, rfl⟩
        go_wp2_with fail
        go_ret
        exact ⟨rfl, HBc.out.gw _⟩

set_option maxHeartbeats 1000000 in
theorem some_any (lo hi b : Int) (w : World) (h0 : 0 ≤ lo) (h1 : lo ≤ hi) (h2 : hi ≤ 1099511627776) (b0 : 0 ≤ b) (b1 : b ≤ 4294967295) :
    Calls Try.prog 9 #[.agg #[.int .i64 lo, .int .i64 hi], .int .u32 b] w fun e w' => e = .returned (.int .i64 (lo + b % (hi - lo + 1))) ∧ Below w.heap.size w w' := by
  obtain ⟨W1, hW1⟩ : ∃ W1, w.alloc (.cells #[.int .i64 lo, .int .i64 hi] 23) = W1 := ⟨_, rfl⟩
  have hBc : Below w.heap.size w W1 := by rw [← hW1]; exact below_alloc _ _
  have zc0 : W1.heap[w.heap.size]? = some (.cells #[.int .i64 lo, .int .i64 hi] 23 (0, 0)) := by rw [← hW1]; exact alloc_at rfl
  have c00 : W1.cell? ⟨w.heap.size, 0, none⟩ = some (.int .i64 lo) := cell_of_block zc0 0 (by simp)
  have c01 : W1.cell? ⟨w.heap.size, 1, none⟩ = some (.int .i64 hi) := cell_of_block zc0 1 (by simp)
  have lc0 := (Array.getElem?_eq_some_iff.1 zc0).1
  clear zc0
  have HBc := Lib.hid hBc; clear hBc
  have HWc := Lib.hid hW1; clear hW1
  have hd : ¬ hi - lo + 1 = 0 := by omega
  have r0 := Int.emod_nonneg b hd
  have r1 := Int.emod_lt_of_pos b (show 0 < hi - lo + 1 by omega)
  go_enter Try.func9, Try.ntmps9
  go_upto_region 1 with (fail)
  rw [HWc.out]
  refine wp_region_gw (by kernel_rfl) (by kernel_rfl) ?_
  repeat (go_big_quiet_step (fail))
  refine wpQuiet_nil ?_
  rintro _ ⟨z, rfl⟩
  go_wp2_with fail
  go_ret
  exact ⟨rfl, HBc.out.gw z⟩

set_option maxRecDepth 100000 in
set_option maxHeartbeats 8000000 in
theorem field_long (dl dh wl wh pl ph : Int) (aS : Option Addr) (nS cS : Nat) (K A Bs : Nat → Int) (m : Msh) (y : Yst) (tl th : Int) (aC : Option Addr) (nC cC : Nat) (FF GG : Nat → Int) (c : L4.Crv) (aL aV : Option Addr) (mV cL cV : Nat) (aM : Option Addr) (k cM : Nat) (M : Nat → Int) (by_ : Int) (w : World) (h : 30 < nS ∨ 30 < nC ∨ 20 < k ∨ 40 < c.n ∨ 40 < mV) :
    Calls Try.prog 3 #[.agg #[.int .i64 dl, .int .i64 dh, .int .i64 wl, .int .i64 wh, .int .i64 pl, .int .i64 ph, .slice aS nS cS, .int .i64 m.g, .int .i64 m.w, .int .i64 m.xl, .int .i64 m.xh, .int .i64 m.hl, .int .i64 m.hh, .slice y.aT y.nT y.cT, .slice y.aR y.nR y.cR, .int .i64 y.sl, .int .i64 y.sh, .int .i64 y.gl, .int .i64 y.gh, .int .i64 y.hl, .int .i64 y.hh, .int .i64 tl, .int .i64 th, .slice aC nC cC, .slice aL c.n cL, .slice aV mV cV, .slice aM k cM], .int .u32 by_] w fun e w' => e = .returned (.bool true) ∧ Below w.heap.size w w' := by
  obtain ⟨W1, hW1⟩ : ∃ W1, w.alloc (.cells #[.int .i64 dl, .int .i64 dh, .int .i64 wl, .int .i64 wh, .int .i64 pl, .int .i64 ph, .slice aS nS cS, .int .i64 m.g, .int .i64 m.w, .int .i64 m.xl, .int .i64 m.xh, .int .i64 m.hl, .int .i64 m.hh, .slice y.aT y.nT y.cT, .slice y.aR y.nR y.cR, .int .i64 y.sl, .int .i64 y.sh, .int .i64 y.gl, .int .i64 y.gh, .int .i64 y.hl, .int .i64 y.hh, .int .i64 tl, .int .i64 th, .slice aC nC cC, .slice aL c.n cL, .slice aV mV cV, .slice aM k cM] 36) = W1 := ⟨_, rfl⟩
  have hBc : Below w.heap.size w W1 := by rw [← hW1]; exact below_alloc _ _
  have zc0 : W1.heap[w.heap.size]? = some (.cells #[.int .i64 dl, .int .i64 dh, .int .i64 wl, .int .i64 wh, .int .i64 pl, .int .i64 ph, .slice aS nS cS, .int .i64 m.g, .int .i64 m.w, .int .i64 m.xl, .int .i64 m.xh, .int .i64 m.hl, .int .i64 m.hh, .slice y.aT y.nT y.cT, .slice y.aR y.nR y.cR, .int .i64 y.sl, .int .i64 y.sh, .int .i64 y.gl, .int .i64 y.gh, .int .i64 y.hl, .int .i64 y.hh, .int .i64 tl, .int .i64 th, .slice aC nC cC, .slice aL c.n cL, .slice aV mV cV, .slice aM k cM] 36 (0, 0)) := by rw [← hW1]; exact alloc_at rfl
  have c00 : W1.cell? ⟨w.heap.size, 0, none⟩ = some (.int .i64 dl) := cell_of_block zc0 0 (by simp)
  have c01 : W1.cell? ⟨w.heap.size, 1, none⟩ = some (.int .i64 dh) := cell_of_block zc0 1 (by simp)
  have c02 : W1.cell? ⟨w.heap.size, 2, none⟩ = some (.int .i64 wl) := cell_of_block zc0 2 (by simp)
  have c03 : W1.cell? ⟨w.heap.size, 3, none⟩ = some (.int .i64 wh) := cell_of_block zc0 3 (by simp)
  have c04 : W1.cell? ⟨w.heap.size, 4, none⟩ = some (.int .i64 pl) := cell_of_block zc0 4 (by simp)
  have c05 : W1.cell? ⟨w.heap.size, 5, none⟩ = some (.int .i64 ph) := cell_of_block zc0 5 (by simp)
  have c06 : W1.cell? ⟨w.heap.size, 6, none⟩ = some (.slice aS nS cS) := cell_of_block zc0 6 (by simp)
  have c07 : W1.cell? ⟨w.heap.size, 7, none⟩ = some (.int .i64 m.g) := cell_of_block zc0 7 (by simp)
  have c08 : W1.cell? ⟨w.heap.size, 8, none⟩ = some (.int .i64 m.w) := cell_of_block zc0 8 (by simp)
  have c09 : W1.cell? ⟨w.heap.size, 9, none⟩ = some (.int .i64 m.xl) := cell_of_block zc0 9 (by simp)
  have c010 : W1.cell? ⟨w.heap.size, 10, none⟩ = some (.int .i64 m.xh) := cell_of_block zc0 10 (by simp)
  have c011 : W1.cell? ⟨w.heap.size, 11, none⟩ = some (.int .i64 m.hl) := cell_of_block zc0 11 (by simp)
  have c012 : W1.cell? ⟨w.heap.size, 12, none⟩ = some (.int .i64 m.hh) := cell_of_block zc0 12 (by simp)
  have c013 : W1.cell? ⟨w.heap.size, 13, none⟩ = some (.slice y.aT y.nT y.cT) := cell_of_block zc0 13 (by simp)
  have c014 : W1.cell? ⟨w.heap.size, 14, none⟩ = some (.slice y.aR y.nR y.cR) := cell_of_block zc0 14 (by simp)
  have c015 : W1.cell? ⟨w.heap.size, 15, none⟩ = some (.int .i64 y.sl) := cell_of_block zc0 15 (by simp)
  have c016 : W1.cell? ⟨w.heap.size, 16, none⟩ = some (.int .i64 y.sh) := cell_of_block zc0 16 (by simp)
  have c017 : W1.cell? ⟨w.heap.size, 17, none⟩ = some (.int .i64 y.gl) := cell_of_block zc0 17 (by simp)
  have c018 : W1.cell? ⟨w.heap.size, 18, none⟩ = some (.int .i64 y.gh) := cell_of_block zc0 18 (by simp)
  have c019 : W1.cell? ⟨w.heap.size, 19, none⟩ = some (.int .i64 y.hl) := cell_of_block zc0 19 (by simp)
  have c020 : W1.cell? ⟨w.heap.size, 20, none⟩ = some (.int .i64 y.hh) := cell_of_block zc0 20 (by simp)
  have c021 : W1.cell? ⟨w.heap.size, 21, none⟩ = some (.int .i64 tl) := cell_of_block zc0 21 (by simp)
  have c022 : W1.cell? ⟨w.heap.size, 22, none⟩ = some (.int .i64 th) := cell_of_block zc0 22 (by simp)
  have c023 : W1.cell? ⟨w.heap.size, 23, none⟩ = some (.slice aC nC cC) := cell_of_block zc0 23 (by simp)
  have c024 : W1.cell? ⟨w.heap.size, 24, none⟩ = some (.slice aL c.n cL) := cell_of_block zc0 24 (by simp)
  have c025 : W1.cell? ⟨w.heap.size, 25, none⟩ = some (.slice aV mV cV) := cell_of_block zc0 25 (by simp)
  have c026 : W1.cell? ⟨w.heap.size, 26, none⟩ = some (.slice aM k cM) := cell_of_block zc0 26 (by simp)
  have lc0 := (Array.getElem?_eq_some_iff.1 zc0).1
  clear zc0
  have HBc := Lib.hid hBc; clear hBc
  have HWc := Lib.hid hW1; clear hW1
  by_cases h1 : 30 < nS
  · have d1 : decide ((nS : Int) > 30) = true := by simp; omega
    have e1 : decide ((30 : Int) < (nS : Int)) = true := by simp; omega
    have g1 : decide (30 < nS) = true := by simp; omega
    clear h
    go_enter Try.func3, Try.ntmps3
    go_upto_region 1 with (fail)
    rw [HWc.out]
    go_wp2_with fail
    refine (awake_any _).mono ?_
    rintro e w1 ⟨rfl, hb⟩
    go_wp2_with fail
    go_ret
    exact ⟨rfl, thru hb HBc.out⟩
  by_cases h2 : 30 < nC
  · have d1 : decide ((nS : Int) > 30) = false := by simp; omega
    have e1 : decide ((30 : Int) < (nS : Int)) = false := by simp; omega
    have g1 : decide (30 < nS) = false := by simp; omega
    have d2 : decide ((nC : Int) > 30) = true := by simp; omega
    have e2 : decide ((30 : Int) < (nC : Int)) = true := by simp; omega
    have g2 : decide (30 < nC) = true := by simp; omega
    clear h
    go_enter Try.func3, Try.ntmps3
    go_upto_region 1 with (fail)
    rw [HWc.out]
    go_wp2_with fail
    refine (awake_any _).mono ?_
    rintro e w1 ⟨rfl, hb⟩
    go_wp2_with fail
    go_ret
    exact ⟨rfl, thru hb HBc.out⟩
  by_cases h3 : 20 < k
  · have d1 : decide ((nS : Int) > 30) = false := by simp; omega
    have e1 : decide ((30 : Int) < (nS : Int)) = false := by simp; omega
    have g1 : decide (30 < nS) = false := by simp; omega
    have d2 : decide ((nC : Int) > 30) = false := by simp; omega
    have e2 : decide ((30 : Int) < (nC : Int)) = false := by simp; omega
    have g2 : decide (30 < nC) = false := by simp; omega
    have d3 : decide ((k : Int) > 20) = true := by simp; omega
    have e3 : decide ((20 : Int) < (k : Int)) = true := by simp; omega
    have g3 : decide (20 < k) = true := by simp; omega
    clear h
    go_enter Try.func3, Try.ntmps3
    go_upto_region 1 with (fail)
    rw [HWc.out]
    go_wp2_with fail
    refine (awake_any _).mono ?_
    rintro e w1 ⟨rfl, hb⟩
    go_wp2_with fail
    go_ret
    exact ⟨rfl, thru hb HBc.out⟩
  by_cases h4 : 40 < c.n
  · have d1 : decide ((nS : Int) > 30) = false := by simp; omega
    have e1 : decide ((30 : Int) < (nS : Int)) = false := by simp; omega
    have g1 : decide (30 < nS) = false := by simp; omega
    have d2 : decide ((nC : Int) > 30) = false := by simp; omega
    have e2 : decide ((30 : Int) < (nC : Int)) = false := by simp; omega
    have g2 : decide (30 < nC) = false := by simp; omega
    have d3 : decide ((k : Int) > 20) = false := by simp; omega
    have e3 : decide ((20 : Int) < (k : Int)) = false := by simp; omega
    have g3 : decide (20 < k) = false := by simp; omega
    have d4 : decide ((c.n : Int) > 40) = true := by simp; omega
    have e4 : decide ((40 : Int) < (c.n : Int)) = true := by simp; omega
    have g4 : decide (40 < c.n) = true := by simp; omega
    clear h
    go_enter Try.func3, Try.ntmps3
    go_upto_region 1 with (fail)
    rw [HWc.out]
    go_wp2_with fail
    refine (awake_any _).mono ?_
    rintro e w1 ⟨rfl, hb⟩
    go_wp2_with fail
    go_ret
    exact ⟨rfl, thru hb HBc.out⟩
  · have h5 : 40 < mV := by omega
    have d1 : decide ((nS : Int) > 30) = false := by simp; omega
    have e1 : decide ((30 : Int) < (nS : Int)) = false := by simp; omega
    have g1 : decide (30 < nS) = false := by simp; omega
    have d2 : decide ((nC : Int) > 30) = false := by simp; omega
    have e2 : decide ((30 : Int) < (nC : Int)) = false := by simp; omega
    have g2 : decide (30 < nC) = false := by simp; omega
    have d3 : decide ((k : Int) > 20) = false := by simp; omega
    have e3 : decide ((20 : Int) < (k : Int)) = false := by simp; omega
    have g3 : decide (20 < k) = false := by simp; omega
    have d4 : decide ((c.n : Int) > 40) = false := by simp; omega
    have e4 : decide ((40 : Int) < (c.n : Int)) = false := by simp; omega
    have g4 : decide (40 < c.n) = false := by simp; omega
    have d5 : decide ((mV : Int) > 40) = true := by simp; omega
    have e5 : decide ((40 : Int) < (mV : Int)) = true := by simp; omega
    have g5 : decide (40 < mV) = true := by simp; omega
    clear h
    go_enter Try.func3, Try.ntmps3
    go_upto_region 1 with (fail)
    rw [HWc.out]
    go_wp2_with fail
    refine (awake_any _).mono ?_
    rintro e w1 ⟨rfl, hb⟩
    go_wp2_with fail
    go_ret
    exact ⟨rfl, thru hb HBc.out⟩

/-- malt, yeast and curve are valid -/
def fieldB (dl dh wl wh pl ph : Int) (y : Yst) (c : L4.Crv) (mV : Nat) : Bool := L2.maltB dl dh wl wh pl ph && (ystB y && L4.curveB c.n mV c.L c.A c.B)
set_option maxRecDepth 100000 in
set_option maxHeartbeats 8000000 in
theorem field_bad (dl dh wl wh pl ph : Int) (aS : Option Addr) (nS cS : Nat) (K A Bs : Nat → Int) (m : Msh) (y : Yst) (tl th : Int) (aC : Option Addr) (nC cC : Nat) (FF GG : Nat → Int) (c : L4.Crv) (aL aV : Option Addr) (mV cL cV : Nat) (aM : Option Addr) (k cM : Nat) (M : Nat → Int) (by_ : Int) (w : World) (hY : y.In w) (hYf : y.Fits) (hL : IntsAt w aL c.n c.L) (hV : SpansAt w aV mV c.A c.B) (h1 : nS ≤ 30) (h2 : nC ≤ 30) (h3 : k ≤ 20) (h4 : c.n ≤ 40) (h5 : mV ≤ 40) (h : fieldB dl dh wl wh pl ph y c mV = false) :
    Calls Try.prog 3 #[.agg #[.int .i64 dl, .int .i64 dh, .int .i64 wl, .int .i64 wh, .int .i64 pl, .int .i64 ph, .slice aS nS cS, .int .i64 m.g, .int .i64 m.w, .int .i64 m.xl, .int .i64 m.xh, .int .i64 m.hl, .int .i64 m.hh, .slice y.aT y.nT y.cT, .slice y.aR y.nR y.cR, .int .i64 y.sl, .int .i64 y.sh, .int .i64 y.gl, .int .i64 y.gh, .int .i64 y.hl, .int .i64 y.hh, .int .i64 tl, .int .i64 th, .slice aC nC cC, .slice aL c.n cL, .slice aV mV cV, .slice aM k cM], .int .u32 by_] w fun e w' => e = .returned (.bool true) ∧ Below w.heap.size w w' := by
  obtain ⟨W1, hW1⟩ : ∃ W1, w.alloc (.cells #[.int .i64 dl, .int .i64 dh, .int .i64 wl, .int .i64 wh, .int .i64 pl, .int .i64 ph, .slice aS nS cS, .int .i64 m.g, .int .i64 m.w, .int .i64 m.xl, .int .i64 m.xh, .int .i64 m.hl, .int .i64 m.hh, .slice y.aT y.nT y.cT, .slice y.aR y.nR y.cR, .int .i64 y.sl, .int .i64 y.sh, .int .i64 y.gl, .int .i64 y.gh, .int .i64 y.hl, .int .i64 y.hh, .int .i64 tl, .int .i64 th, .slice aC nC cC, .slice aL c.n cL, .slice aV mV cV, .slice aM k cM] 36) = W1 := ⟨_, rfl⟩
  have hBc : Below w.heap.size w W1 := by rw [← hW1]; exact below_alloc _ _
  have zc0 : W1.heap[w.heap.size]? = some (.cells #[.int .i64 dl, .int .i64 dh, .int .i64 wl, .int .i64 wh, .int .i64 pl, .int .i64 ph, .slice aS nS cS, .int .i64 m.g, .int .i64 m.w, .int .i64 m.xl, .int .i64 m.xh, .int .i64 m.hl, .int .i64 m.hh, .slice y.aT y.nT y.cT, .slice y.aR y.nR y.cR, .int .i64 y.sl, .int .i64 y.sh, .int .i64 y.gl, .int .i64 y.gh, .int .i64 y.hl, .int .i64 y.hh, .int .i64 tl, .int .i64 th, .slice aC nC cC, .slice aL c.n cL, .slice aV mV cV, .slice aM k cM] 36 (0, 0)) := by rw [← hW1]; exact alloc_at rfl
  have c00 : W1.cell? ⟨w.heap.size, 0, none⟩ = some (.int .i64 dl) := cell_of_block zc0 0 (by simp)
  have c01 : W1.cell? ⟨w.heap.size, 1, none⟩ = some (.int .i64 dh) := cell_of_block zc0 1 (by simp)
  have c02 : W1.cell? ⟨w.heap.size, 2, none⟩ = some (.int .i64 wl) := cell_of_block zc0 2 (by simp)
  have c03 : W1.cell? ⟨w.heap.size, 3, none⟩ = some (.int .i64 wh) := cell_of_block zc0 3 (by simp)
  have c04 : W1.cell? ⟨w.heap.size, 4, none⟩ = some (.int .i64 pl) := cell_of_block zc0 4 (by simp)
  have c05 : W1.cell? ⟨w.heap.size, 5, none⟩ = some (.int .i64 ph) := cell_of_block zc0 5 (by simp)
  have c06 : W1.cell? ⟨w.heap.size, 6, none⟩ = some (.slice aS nS cS) := cell_of_block zc0 6 (by simp)
  have c07 : W1.cell? ⟨w.heap.size, 7, none⟩ = some (.int .i64 m.g) := cell_of_block zc0 7 (by simp)
  have c08 : W1.cell? ⟨w.heap.size, 8, none⟩ = some (.int .i64 m.w) := cell_of_block zc0 8 (by simp)
  have c09 : W1.cell? ⟨w.heap.size, 9, none⟩ = some (.int .i64 m.xl) := cell_of_block zc0 9 (by simp)
  have c010 : W1.cell? ⟨w.heap.size, 10, none⟩ = some (.int .i64 m.xh) := cell_of_block zc0 10 (by simp)
  have c011 : W1.cell? ⟨w.heap.size, 11, none⟩ = some (.int .i64 m.hl) := cell_of_block zc0 11 (by simp)
  have c012 : W1.cell? ⟨w.heap.size, 12, none⟩ = some (.int .i64 m.hh) := cell_of_block zc0 12 (by simp)
  have c013 : W1.cell? ⟨w.heap.size, 13, none⟩ = some (.slice y.aT y.nT y.cT) := cell_of_block zc0 13 (by simp)
  have c014 : W1.cell? ⟨w.heap.size, 14, none⟩ = some (.slice y.aR y.nR y.cR) := cell_of_block zc0 14 (by simp)
  have c015 : W1.cell? ⟨w.heap.size, 15, none⟩ = some (.int .i64 y.sl) := cell_of_block zc0 15 (by simp)
  have c016 : W1.cell? ⟨w.heap.size, 16, none⟩ = some (.int .i64 y.sh) := cell_of_block zc0 16 (by simp)
  have c017 : W1.cell? ⟨w.heap.size, 17, none⟩ = some (.int .i64 y.gl) := cell_of_block zc0 17 (by simp)
  have c018 : W1.cell? ⟨w.heap.size, 18, none⟩ = some (.int .i64 y.gh) := cell_of_block zc0 18 (by simp)
  have c019 : W1.cell? ⟨w.heap.size, 19, none⟩ = some (.int .i64 y.hl) := cell_of_block zc0 19 (by simp)
  have c020 : W1.cell? ⟨w.heap.size, 20, none⟩ = some (.int .i64 y.hh) := cell_of_block zc0 20 (by simp)
  have c021 : W1.cell? ⟨w.heap.size, 21, none⟩ = some (.int .i64 tl) := cell_of_block zc0 21 (by simp)
  have c022 : W1.cell? ⟨w.heap.size, 22, none⟩ = some (.int .i64 th) := cell_of_block zc0 22 (by simp)
  have c023 : W1.cell? ⟨w.heap.size, 23, none⟩ = some (.slice aC nC cC) := cell_of_block zc0 23 (by simp)
  have c024 : W1.cell? ⟨w.heap.size, 24, none⟩ = some (.slice aL c.n cL) := cell_of_block zc0 24 (by simp)
  have c025 : W1.cell? ⟨w.heap.size, 25, none⟩ = some (.slice aV mV cV) := cell_of_block zc0 25 (by simp)
  have c026 : W1.cell? ⟨w.heap.size, 26, none⟩ = some (.slice aM k cM) := cell_of_block zc0 26 (by simp)
  have lc0 := (Array.getElem?_eq_some_iff.1 zc0).1
  clear zc0
  have HBc := Lib.hid hBc; clear hBc
  have HWc := Lib.hid hW1; clear hW1
  have d1 : decide ((nS : Int) > 30) = false := by simp; omega
  have e1 : decide ((30 : Int) < (nS : Int)) = false := by simp; omega
  have g1 : decide (30 < nS) = false := by simp; omega
  have d2 : decide ((nC : Int) > 30) = false := by simp; omega
  have e2 : decide ((30 : Int) < (nC : Int)) = false := by simp; omega
  have g2 : decide (30 < nC) = false := by simp; omega
  have d3 : decide ((k : Int) > 20) = false := by simp; omega
  have e3 : decide ((20 : Int) < (k : Int)) = false := by simp; omega
  have g3 : decide (20 < k) = false := by simp; omega
  have d4 : decide ((c.n : Int) > 40) = false := by simp; omega
  have e4 : decide ((40 : Int) < (c.n : Int)) = false := by simp; omega
  have g4 : decide (40 < c.n) = false := by simp; omega
  have d5 : decide ((mV : Int) > 40) = false := by simp; omega
  have e5 : decide ((40 : Int) < (mV : Int)) = false := by simp; omega
  have g5 : decide (40 < mV) = false := by simp; omega
  have RM := rmalt_any dl dh wl wh pl ph
  have RY := fun W (hb : Below w.heap.size w W) => rYeast_any y W (hY.below hb) hYf
  have RC := fun W (hb : Below w.heap.size w W) => L4.rcurve_any aL aV c.n mV cL cV c.L c.A c.B W (by omega) (by omega) (hL.below hb) (hV.below hb)
  unfold Yst.val at RY
  unfold fieldB at h
  clear hY hYf hL hV h1 h2 h3 h4 h5
  cases e1 : L2.maltB dl dh wl wh pl ph with
  | false =>
    rw [e1] at RM
    have RM := Lib.hid RM
    clear RY RC e1 h
    go_enter Try.func3, Try.ntmps3
    go_upto_region 1 with (fail)
    rw [HWc.out]
    go_wp2_with fail
    refine (Calls.grown (RM.out _)).mono ?_
    rintro e w1 ⟨rfl, z1, rfl⟩
    go_wp2_with fail
    refine (awake_any _).mono ?_
    rintro e w1 ⟨rfl, hb⟩
    go_wp2_with fail
    go_ret
    exact ⟨rfl, thru hb (HBc.out.gw z1)⟩
  | true =>
    rw [e1] at RM
    have RM := Lib.hid RM
    cases e2 : ystB y with
    | false =>
      rw [e2] at RY
      have RY := Lib.hid RY
      clear RC e1 e2 h
      go_enter Try.func3, Try.ntmps3
      go_upto_region 1 with (fail)
      rw [HWc.out]
      go_wp2_with fail
      refine (Calls.grown (RM.out _)).mono ?_
      rintro e w1 ⟨rfl, z1, rfl⟩
      go_wp2_with fail
      refine (Calls.gw_of (RY.out _ (HBc.out.gw z1))).mono ?_
      rintro e w1 ⟨rfl, z2, rfl⟩
      go_wp2_with fail
      refine (awake_any _).mono ?_
      rintro e w1 ⟨rfl, hb⟩
      go_wp2_with fail
      go_ret
      exact ⟨rfl, thru hb (HBc.out.gw z2)⟩
    | true =>
      rw [e2] at RY
      have RY := Lib.hid RY
      have e3 : L4.curveB c.n mV c.L c.A c.B = false := by rw [e1, e2] at h; simpa using h
      rw [e3] at RC
      have RC := Lib.hid RC
      clear e1 e2 e3 h
      go_enter Try.func3, Try.ntmps3
      go_upto_region 1 with (fail)
      rw [HWc.out]
      go_wp2_with fail
      refine (Calls.grown (RM.out _)).mono ?_
      rintro e w1 ⟨rfl, z1, rfl⟩
      go_wp2_with fail
      refine (Calls.gw_of (RY.out _ (HBc.out.gw z1))).mono ?_
      rintro e w1 ⟨rfl, z2, rfl⟩
      go_wp2_with fail
      refine (Calls.gw_of (RC.out _ (HBc.out.gw z2))).mono ?_
      rintro e w1 ⟨rfl, z3, rfl⟩
      go_wp2_with fail
      refine (awake_any _).mono ?_
      rintro e w1 ⟨rfl, hb⟩
      go_wp2_with fail
      go_ret
      exact ⟨rfl, thru hb (HBc.out.gw z3)⟩
end Go.Proofs.Ytfefmgadfklgmaa
