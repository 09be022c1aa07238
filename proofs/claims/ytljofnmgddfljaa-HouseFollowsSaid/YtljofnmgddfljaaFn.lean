/- HouseAgain walked: it returns true. No conditions beyond each theorem's own. -/
import Derived.Test.YtljofnmgddfljaaFm
import Derived.Test.YtljofnmgddfljaaFf
import Derived.Test.YtljofnmgddfljaaFb
import Derived.Test.YtljofnmgddfljaaCb
set_option linter.unusedVariables false
set_option linter.unusedSimpArgs false
set_option linter.unusedSectionVars false
set_option linter.constructorNameAsVariable false
namespace Go.Proofs.Ytljofnmgddfljaa
open Go.RowKit

attribute [local go_sem] gw_cell gw_frozen gw_size

theorem zero_five {x : Cont} (h : x = zeroCont) : x.day = 0 ∧ x.alo = 0 ∧ x.ahi = 0 ∧ x.wlo = 0 ∧ x.whi = 0 := by subst h; exact ⟨rfl, rfl, rfl, rfl, rfl⟩
theorem folV_bad {C : Clim} {k n : Nat} {F G : Nat → Int} {M : Nat → Reg} {x : Cont} (hn : ¬ 8 < n) (h : ¬ (climB C = true ∧ contB x = true ∧ staysB C.nA k F G = true)) {rc : Cont} {ri : Nat} {re : Int} (hR : folV C k F G M x n = (rc, ri, re)) : (rc.day = 0 ∧ rc.alo = 0 ∧ rc.ahi = 0 ∧ rc.wlo = 0 ∧ rc.whi = 0) ∧ ((ri : Int) == 0) = true ∧ (re == 1) = true := by
  unfold folV at hR
  rw [if_neg (by omega), if_neg h] at hR
  obtain ⟨e1, e2, e3⟩ := Prod.mk.injEq .. ▸ (Prod.mk.injEq .. ▸ hR : _ ∧ (_, _) = (_, _))
  exact ⟨zero_five e1.symm, by simp [← e2], by simp [← e3]⟩
theorem folV_good {C : Clim} {k n : Nat} {F G : Nat → Int} {M : Nat → Reg} {x : Cont} (hn : ¬ 8 < n) (h : climB C = true ∧ contB x = true ∧ staysB C.nA k F G = true) {R : Cont × Nat × Int} (hR : folV C k F G M x n = R) : folS C k F G M (n - 0) 0 x = R := by
  unfold folV at hR
  rw [if_neg (by omega), if_pos h] at hR
  exact hR
theorem three_eq {a b : Cont} {i j : Nat} {e f : Int} (h : (a, i, e) = (b, j, f)) : (a.day = b.day ∧ a.alo = b.alo ∧ a.ahi = b.ahi ∧ a.wlo = b.wlo ∧ a.whi = b.whi) ∧ ((i : Int) == (j : Int)) = true ∧ (e == f) = true := by
  cases h
  simp

set_option maxRecDepth 100000 in
set_option maxHeartbeats 16000000 in
theorem again_any (C : Clim) (x : Cont) (aS aL : Option Addr) (k cS n cL : Nat) (F G : Nat → Int) (M : Nat → Reg) (w : World) (hC : C.In w) (hl : Lens C k) (hS : SpansAt w aS k F G) (hL : RegsAt w aL n M) (hn : n ≤ 9223372036854775807) :
    Calls Try.prog 8 #[.agg #[.int .i64 C.days, .slice C.aA C.nA C.cA, .slice C.aW C.nW C.cW], x.val, .slice aS k cS, .slice aL n cL] w (True1 w) := by
  unfold Cont.val
  obtain ⟨W1, hW1⟩ : ∃ W1, (w.alloc (.cells #[.int .i64 C.days, .slice C.aA C.nA C.cA, .slice C.aW C.nW C.cW] 24)).alloc (.cells #[.int .i64 x.day, .int .i64 x.alo, .int .i64 x.ahi, .int .i64 x.wlo, .int .i64 x.whi] 28) = W1 := ⟨_, rfl⟩
  have hBc : Below w.heap.size w W1 := by rw [← hW1]; exact (below_alloc _ _).alloc (by simp) _
  have zc0 : W1.heap[w.heap.size]? = some (.cells #[.int .i64 C.days, .slice C.aA C.nA C.cA, .slice C.aW C.nW C.cW] 24 (0, 0)) := by rw [← hW1]; exact alloc_keep (alloc_at rfl)
  have zc1 : W1.heap[w.heap.size + 1]? = some (.cells #[.int .i64 x.day, .int .i64 x.alo, .int .i64 x.ahi, .int .i64 x.wlo, .int .i64 x.whi] 28 (0, 0)) := by rw [← hW1]; exact alloc_at (by simp)
  have c00 : W1.cell? ⟨w.heap.size, 0, none⟩ = some (.int .i64 C.days) := cell_of_block zc0 0 (by simp)
  have c01 : W1.cell? ⟨w.heap.size, 1, none⟩ = some (.slice C.aA C.nA C.cA) := cell_of_block zc0 1 (by simp)
  have c02 : W1.cell? ⟨w.heap.size, 2, none⟩ = some (.slice C.aW C.nW C.cW) := cell_of_block zc0 2 (by simp)
  have c10 : W1.cell? ⟨w.heap.size + 1, 0, none⟩ = some (.int .i64 x.day) := cell_of_block zc1 0 (by simp)
  have c11 : W1.cell? ⟨w.heap.size + 1, 1, none⟩ = some (.int .i64 x.alo) := cell_of_block zc1 1 (by simp)
  have c12 : W1.cell? ⟨w.heap.size + 1, 2, none⟩ = some (.int .i64 x.ahi) := cell_of_block zc1 2 (by simp)
  have c13 : W1.cell? ⟨w.heap.size + 1, 3, none⟩ = some (.int .i64 x.wlo) := cell_of_block zc1 3 (by simp)
  have c14 : W1.cell? ⟨w.heap.size + 1, 4, none⟩ = some (.int .i64 x.whi) := cell_of_block zc1 4 (by simp)
  have lc0 := (Array.getElem?_eq_some_iff.1 zc0).1
  have lc1 := (Array.getElem?_eq_some_iff.1 zc1).1
  have Zc0 := Lib.hid zc0
  have Zc1 := Lib.hid zc1
  clear zc0 zc1
  have HBc := Lib.hid hBc; clear hBc
  have HWc := Lib.hid hW1; clear hW1
  have hf : C.Fits := ⟨hl.na, hl.nw, hl.la, hl.lw⟩
  have hk := hl.st
  have HC := Lib.hid (hC.below HBc.out); clear hC
  have HS := Lib.hid (hS.below HBc.out); clear hS
  have HRL := Lib.hid (hL.below HBc.out); clear hL
  have HF := Lib.hid hf; clear hf
  have HLN := Lib.hid hl; clear hl
  by_cases h8 : 8 < n
  · go_enter Try.func8, Try.ntmps8
    go_wp2_with fail
    rw [HWc.out]
    go_wp2_with fail
    refine (Calls.grown (alive_any _)).mono ?_
    rintro e w1 ⟨rfl, z2, rfl⟩
    go_wp2_with fail
    go_ret
    exact ⟨rfl, HBc.out.gw z2⟩
  · obtain ⟨⟨rc, ri, re⟩, hR⟩ : ∃ R, folV C k F G M x n = R := ⟨_, rfl⟩
    have FOL := fun W (hb : Below W1.heap.size W1 W) => Follow_any C x aS aL k cS n cL F G M (rc, ri, re) W (HC.out.below hb) HF.out hk (HS.out.below hb) (HRL.out.below hb) hn hR
    dsimp only at FOL
    unfold Cont.val at FOL
    have FOL' := Lib.hid FOL; clear FOL
    have HR := Lib.hid hR; clear hR
    have GRX := Lib.hid (fun W b d (hb : Below W1.heap.size W1 W) (hlt : b < W.heap.size) (hc : W.cell? ⟨b, 0, none⟩ = some (.int .i64 d)) => great_x C x aS k cS (some ⟨b, 0, none⟩) 1 1 (fun _ => d) W (HC.out.below hb) HLN.out (ints_one hlt hc) (by omega))
    go_enter Try.func8, Try.ntmps8
    go_wp2_with fail
    rw [HWc.out]
    go_loopw [25] (fun t wr => ∃ i : Nat, i ≤ n ∧ t = .int .i64 i ∧ Hid (Below W1.heap.size W1 wr)) (fun t _ => n - (intOf t).toNat)
    case atStart => exact ⟨0, Nat.zero_le _, rfl, Lib.hid (Below.refl _ _)⟩
    case round =>
      obtain ⟨i, hi, rfl, SB⟩ := hrel
      have HBw := Lib.hid (thru SB.out HBc.out)
      have Y0 := Lib.hid ((SB.out.block _ lc0).trans Zc0.out)
      have Y1 := Lib.hid ((SB.out.block _ lc1).trans Zc1.out)
      clear c00 c01 c02 c10 c11 c12 c13 c14
      by_cases hlt : i < n
      · rcases HRL.out with hz | ⟨b, off, rfl, lb, hc⟩
        · omega
        · obtain ⟨m0, m1, m2, m3, m4⟩ := hc i hlt
          have lbr := Nat.lt_of_lt_of_le lb SB.out.size
          have q0 := below_cell SB.out m0
          have q1 := below_cell SB.out m1
          have q2 := below_cell SB.out m2
          have q3 := below_cell SB.out m3
          have q4 := below_cell SB.out m4
          clear hc m0 m1 m2 m3 m4
          obtain ⟨m, hm⟩ : ∃ m, M i = m := ⟨_, rfl⟩
          rw [hm] at q0 q1 q2 q3 q4
          clear hm
          go_upto_region 6 with (fail)
          obtain ⟨W2, hW2⟩ : ∃ W2, ((wr)).alloc (.cells #[.int .i64 m.day, .int .i64 m.vlo, .int .i64 m.vhi, .int .i64 m.slo, .int .i64 m.shi] 44) = W2 := ⟨_, rfl⟩
          have hbW2 : Below wr.heap.size wr W2 := by rw [← hW2]; exact (Below.refl _ wr).alloc (by simp [gw_size]) _
          have ZcW2 := Lib.hid ((hbW2.block _ (Array.getElem?_eq_some_iff.1 Y0.out).1).trans Y0.out)
          have ZxW2 := Lib.hid ((hbW2.block _ (Array.getElem?_eq_some_iff.1 Y1.out).1).trans Y1.out)
          have zmW2 : W2.heap[wr.heap.size]? = some (.cells #[.int .i64 m.day, .int .i64 m.vlo, .int .i64 m.vhi, .int .i64 m.slo, .int .i64 m.shi] 44 (0, 0)) := by rw [← hW2]; exact alloc_at (by simp [gw_size])
          have ZmW2 := Lib.hid zmW2; clear zmW2
          have HBW2 := Lib.hid (thru hbW2 HBw.out)
          have SBW2 := Lib.hid hbW2; clear hbW2
          have HWW2 := Lib.hid hW2; clear hW2
          rw [HWW2.out]
          have S2 := Lib.hid (SB.out.trans (SBW2.out.mono SB.out.size))
          have ec0W2 : W2.cell? ⟨w.heap.size, 0, none⟩ = some (.int .i64 C.days) := cell_of_block ZcW2.out 0 (by simp)
          have ec1W2 : W2.cell? ⟨w.heap.size, 1, none⟩ = some (.slice C.aA C.nA C.cA) := cell_of_block ZcW2.out 1 (by simp)
          have ec2W2 : W2.cell? ⟨w.heap.size, 2, none⟩ = some (.slice C.aW C.nW C.cW) := cell_of_block ZcW2.out 2 (by simp)
          have lcW2 := (Array.getElem?_eq_some_iff.1 ZcW2.out).1
          have ex0W2 : W2.cell? ⟨w.heap.size + 1, 0, none⟩ = some (.int .i64 x.day) := cell_of_block ZxW2.out 0 (by simp)
          have ex1W2 : W2.cell? ⟨w.heap.size + 1, 1, none⟩ = some (.int .i64 x.alo) := cell_of_block ZxW2.out 1 (by simp)
          have ex2W2 : W2.cell? ⟨w.heap.size + 1, 2, none⟩ = some (.int .i64 x.ahi) := cell_of_block ZxW2.out 2 (by simp)
          have ex3W2 : W2.cell? ⟨w.heap.size + 1, 3, none⟩ = some (.int .i64 x.wlo) := cell_of_block ZxW2.out 3 (by simp)
          have ex4W2 : W2.cell? ⟨w.heap.size + 1, 4, none⟩ = some (.int .i64 x.whi) := cell_of_block ZxW2.out 4 (by simp)
          have lxW2 := (Array.getElem?_eq_some_iff.1 ZxW2.out).1
          have em0W2 : W2.cell? ⟨wr.heap.size, 0, none⟩ = some (.int .i64 m.day) := cell_of_block ZmW2.out 0 (by simp)
          have em1W2 : W2.cell? ⟨wr.heap.size, 1, none⟩ = some (.int .i64 m.vlo) := cell_of_block ZmW2.out 1 (by simp)
          have em2W2 : W2.cell? ⟨wr.heap.size, 2, none⟩ = some (.int .i64 m.vhi) := cell_of_block ZmW2.out 2 (by simp)
          have em3W2 : W2.cell? ⟨wr.heap.size, 3, none⟩ = some (.int .i64 m.slo) := cell_of_block ZmW2.out 3 (by simp)
          have em4W2 : W2.cell? ⟨wr.heap.size, 4, none⟩ = some (.int .i64 m.shi) := cell_of_block ZmW2.out 4 (by simp)
          have lmW2 := (Array.getElem?_eq_some_iff.1 ZmW2.out).1
          go_wp2_with fail
          obtain ⟨W3, hW3⟩ : ∃ W3, ((W2)).alloc (.cells #[.int .i64 m.day] 3) = W3 := ⟨_, rfl⟩
          have hbW3 : Below W2.heap.size W2 W3 := by rw [← hW3]; exact (Below.refl _ W2).alloc (by simp [gw_size]) _
          have ZcW3 := Lib.hid ((hbW3.block _ (Array.getElem?_eq_some_iff.1 ZcW2.out).1).trans ZcW2.out)
          have ZxW3 := Lib.hid ((hbW3.block _ (Array.getElem?_eq_some_iff.1 ZxW2.out).1).trans ZxW2.out)
          have ZmW3 := Lib.hid ((hbW3.block _ (Array.getElem?_eq_some_iff.1 ZmW2.out).1).trans ZmW2.out)
          have zdW3 : W3.heap[W2.heap.size]? = some (.cells #[.int .i64 m.day] 3 (0, 0)) := by rw [← hW3]; exact alloc_at (by simp [gw_size])
          have ZdW3 := Lib.hid zdW3; clear zdW3
          have HBW3 := Lib.hid (thru hbW3 HBW2.out)
          have SBW3 := Lib.hid hbW3; clear hbW3
          have HWW3 := Lib.hid hW3; clear hW3
          rw [HWW3.out]
          have S3 := Lib.hid (S2.out.trans (SBW3.out.mono S2.out.size))
          have ed0W3 : W3.cell? ⟨W2.heap.size, 0, none⟩ = some (.int .i64 m.day) := cell_of_block ZdW3.out 0 (by simp)
          have ldW3 := (Array.getElem?_eq_some_iff.1 ZdW3.out).1
          have GR := GRX.out _ _ _ S3.out ldW3 ed0W3
          clear ed0W3
          obtain ⟨gb, hgb⟩ : ∃ gb, greatB C x k 1 (fun _ => m.day) = gb := ⟨_, rfl⟩
          rw [hgb] at GR
          clear hgb
          unfold Cont.val at GR
          have GR' := Lib.hid GR; clear GR
          cases gb with
          | true =>
            refine (Calls.grown (GR'.out)).mono ?_
            rintro e w1 ⟨rfl, z1, rfl⟩
            go_wp2_with fail
            refine (Calls.gw_of (alive_any _)).mono ?_
            rintro e w1 ⟨rfl, z2, rfl⟩
            go_wp2_with fail
            go_ret
            exact ⟨rfl, HBW3.out.gw z2⟩
          | false =>
            refine (Calls.grown (GR'.out)).mono ?_
            rintro e w1 ⟨rfl, z1, rfl⟩
            go_wp2_with fail
            go_roundw
            case rel => exact ⟨i + 1, by omega, by go_num, Lib.hid (S3.out.trans ((below_gw W3 z1).mono S3.out.size))⟩
            case measure => simp [intOf]; omega
      · obtain rfl : n = i := by omega
        obtain ⟨wo, rfl⟩ : ∃ wo : World, wo = wr := ⟨_, rfl⟩
        have ec0wo : wo.cell? ⟨w.heap.size, 0, none⟩ = some (.int .i64 C.days) := cell_of_block Y0.out 0 (by simp)
        have ec1wo : wo.cell? ⟨w.heap.size, 1, none⟩ = some (.slice C.aA C.nA C.cA) := cell_of_block Y0.out 1 (by simp)
        have ec2wo : wo.cell? ⟨w.heap.size, 2, none⟩ = some (.slice C.aW C.nW C.cW) := cell_of_block Y0.out 2 (by simp)
        have lcwo := (Array.getElem?_eq_some_iff.1 Y0.out).1
        have ex0wo : wo.cell? ⟨w.heap.size + 1, 0, none⟩ = some (.int .i64 x.day) := cell_of_block Y1.out 0 (by simp)
        have ex1wo : wo.cell? ⟨w.heap.size + 1, 1, none⟩ = some (.int .i64 x.alo) := cell_of_block Y1.out 1 (by simp)
        have ex2wo : wo.cell? ⟨w.heap.size + 1, 2, none⟩ = some (.int .i64 x.ahi) := cell_of_block Y1.out 2 (by simp)
        have ex3wo : wo.cell? ⟨w.heap.size + 1, 3, none⟩ = some (.int .i64 x.wlo) := cell_of_block Y1.out 3 (by simp)
        have ex4wo : wo.cell? ⟨w.heap.size + 1, 4, none⟩ = some (.int .i64 x.whi) := cell_of_block Y1.out 4 (by simp)
        have lxwo := (Array.getElem?_eq_some_iff.1 Y1.out).1
        go_wp2_with fail
        refine (Calls.grown (FOL'.out _ (SB.out))).mono ?_
        rintro e w1 ⟨rfl, z1, rfl⟩
        go_upto_region 10 with (fail)
        obtain ⟨W2, hW2⟩ : ∃ W2, ((gw wo z1)).alloc (.cells #[.int .i64 rc.day, .int .i64 rc.alo, .int .i64 rc.ahi, .int .i64 rc.wlo, .int .i64 rc.whi] 28) = W2 := ⟨_, rfl⟩
        have hbW2 : Below wo.heap.size wo W2 := by rw [← hW2]; exact (below_gw wo z1).alloc (by simp [gw_size]) _
        have ZcW2 := Lib.hid ((hbW2.block _ (Array.getElem?_eq_some_iff.1 Y0.out).1).trans Y0.out)
        have ZxW2 := Lib.hid ((hbW2.block _ (Array.getElem?_eq_some_iff.1 Y1.out).1).trans Y1.out)
        have zeW2 : W2.heap[wo.heap.size + z1.bs.size]? = some (.cells #[.int .i64 rc.day, .int .i64 rc.alo, .int .i64 rc.ahi, .int .i64 rc.wlo, .int .i64 rc.whi] 28 (0, 0)) := by rw [← hW2]; exact alloc_at (by simp [gw_size])
        have ZeW2 := Lib.hid zeW2; clear zeW2
        have HBW2 := Lib.hid (thru hbW2 HBw.out)
        have SBW2 := Lib.hid hbW2; clear hbW2
        have HWW2 := Lib.hid hW2; clear hW2
        rw [HWW2.out]
        clear ec0wo ec1wo ec2wo ex0wo ex1wo ex2wo ex3wo ex4wo
        have S2 := Lib.hid (SB.out.trans (SBW2.out.mono SB.out.size))
        have ec0W2 : W2.cell? ⟨w.heap.size, 0, none⟩ = some (.int .i64 C.days) := cell_of_block ZcW2.out 0 (by simp)
        have ec1W2 : W2.cell? ⟨w.heap.size, 1, none⟩ = some (.slice C.aA C.nA C.cA) := cell_of_block ZcW2.out 1 (by simp)
        have ec2W2 : W2.cell? ⟨w.heap.size, 2, none⟩ = some (.slice C.aW C.nW C.cW) := cell_of_block ZcW2.out 2 (by simp)
        have lcW2 := (Array.getElem?_eq_some_iff.1 ZcW2.out).1
        have ex0W2 : W2.cell? ⟨w.heap.size + 1, 0, none⟩ = some (.int .i64 x.day) := cell_of_block ZxW2.out 0 (by simp)
        have ex1W2 : W2.cell? ⟨w.heap.size + 1, 1, none⟩ = some (.int .i64 x.alo) := cell_of_block ZxW2.out 1 (by simp)
        have ex2W2 : W2.cell? ⟨w.heap.size + 1, 2, none⟩ = some (.int .i64 x.ahi) := cell_of_block ZxW2.out 2 (by simp)
        have ex3W2 : W2.cell? ⟨w.heap.size + 1, 3, none⟩ = some (.int .i64 x.wlo) := cell_of_block ZxW2.out 3 (by simp)
        have ex4W2 : W2.cell? ⟨w.heap.size + 1, 4, none⟩ = some (.int .i64 x.whi) := cell_of_block ZxW2.out 4 (by simp)
        have lxW2 := (Array.getElem?_eq_some_iff.1 ZxW2.out).1
        have ee0W2 : W2.cell? ⟨wo.heap.size + z1.bs.size, 0, none⟩ = some (.int .i64 rc.day) := cell_of_block ZeW2.out 0 (by simp)
        have ee1W2 : W2.cell? ⟨wo.heap.size + z1.bs.size, 1, none⟩ = some (.int .i64 rc.alo) := cell_of_block ZeW2.out 1 (by simp)
        have ee2W2 : W2.cell? ⟨wo.heap.size + z1.bs.size, 2, none⟩ = some (.int .i64 rc.ahi) := cell_of_block ZeW2.out 2 (by simp)
        have ee3W2 : W2.cell? ⟨wo.heap.size + z1.bs.size, 3, none⟩ = some (.int .i64 rc.wlo) := cell_of_block ZeW2.out 3 (by simp)
        have ee4W2 : W2.cell? ⟨wo.heap.size + z1.bs.size, 4, none⟩ = some (.int .i64 rc.whi) := cell_of_block ZeW2.out 4 (by simp)
        have leW2 := (Array.getElem?_eq_some_iff.1 ZeW2.out).1
        go_wp2_with fail
        cases g1 : climB C with
        | false =>
          obtain ⟨⟨d0, d1, d2, d3, d4⟩, r1, r2⟩ := folV_bad h8 (by simp [g1]) HR.out
          have CLI' := Lib.hid (fun W (hb : Below W1.heap.size W1 W) => rClimate_b C W (HC.out.below hb) HF.out g1)
          clear g1
          rw [d0] at ee0W2
          rw [d1] at ee1W2
          rw [d2] at ee2W2
          rw [d3] at ee3W2
          rw [d4] at ee4W2
          clear d0 d1 d2 d3 d4
          refine (Calls.grown (CLI'.out _ (S2.out))).mono ?_
          rintro e w1 ⟨rfl, z2, rfl⟩
          go_wp2_with fail
          refine (Calls.gw_of (alive_any _)).mono ?_
          rintro e w1 ⟨rfl, z3, rfl⟩
          go_wp2_with fail
          go_ret
          exact ⟨rfl, HBW2.out.gw z3⟩
        | true =>
          cases g2 : contB x with
          | false =>
            obtain ⟨⟨d0, d1, d2, d3, d4⟩, r1, r2⟩ := folV_bad h8 (by simp [g1, g2]) HR.out
            have CLI' := Lib.hid (fun W (hb : Below W1.heap.size W1 W) => rClimate_b C W (HC.out.below hb) HF.out g1)
            have CON' := Lib.hid (fun W (hb : Below W1.heap.size W1 W) => rContent_b x W g2)
            clear g1 g2
            rw [d0] at ee0W2
            rw [d1] at ee1W2
            rw [d2] at ee2W2
            rw [d3] at ee3W2
            rw [d4] at ee4W2
            clear d0 d1 d2 d3 d4
            refine (Calls.grown (CLI'.out _ (S2.out))).mono ?_
            rintro e w1 ⟨rfl, z2, rfl⟩
            go_wp2_with fail
            refine (Calls.gw_of (CON'.out _ (S2.out.trans ((below_gw W2 z2).mono S2.out.size)))).mono ?_
            rintro e w1 ⟨rfl, z3, rfl⟩
            go_wp2_with fail
            refine (Calls.gw_of (alive_any _)).mono ?_
            rintro e w1 ⟨rfl, z4, rfl⟩
            go_wp2_with fail
            go_ret
            exact ⟨rfl, HBW2.out.gw z4⟩
          | true =>
            cases g3 : staysB C.nA k F G with
            | false =>
              obtain ⟨⟨d0, d1, d2, d3, d4⟩, r1, r2⟩ := folV_bad h8 (by simp [g1, g2, g3]) HR.out
              have CLI' := Lib.hid (fun W (hb : Below W1.heap.size W1 W) => rClimate_b C W (HC.out.below hb) HF.out g1)
              have CON' := Lib.hid (fun W (hb : Below W1.heap.size W1 W) => rContent_b x W g2)
              have STA' := Lib.hid (fun W (hb : Below W1.heap.size W1 W) => rStays_b C aS k cS F G W HF.out hk (HS.out.below hb) g3)
              clear g1 g2 g3
              rw [d0] at ee0W2
              rw [d1] at ee1W2
              rw [d2] at ee2W2
              rw [d3] at ee3W2
              rw [d4] at ee4W2
              clear d0 d1 d2 d3 d4
              refine (Calls.grown (CLI'.out _ (S2.out))).mono ?_
              rintro e w1 ⟨rfl, z2, rfl⟩
              go_wp2_with fail
              refine (Calls.gw_of (CON'.out _ (S2.out.trans ((below_gw W2 z2).mono S2.out.size)))).mono ?_
              rintro e w1 ⟨rfl, z3, rfl⟩
              go_wp2_with fail
              refine (Calls.gw_of (STA'.out _ (S2.out.trans ((below_gw W2 z3).mono S2.out.size)))).mono ?_
              rintro e w1 ⟨rfl, z4, rfl⟩
              go_wp2_with fail
              refine (Calls.gw_of (alive_any _)).mono ?_
              rintro e w1 ⟨rfl, z5, rfl⟩
              go_wp2_with fail
              go_ret
              exact ⟨rfl, HBW2.out.gw z5⟩
            | true =>
              have FS := Lib.hid (folV_good h8 ⟨g1, g2, g3⟩ HR.out)
              have CLI' := Lib.hid (fun W (hb : Below W1.heap.size W1 W) => rClimate_b C W (HC.out.below hb) HF.out g1)
              have CON' := Lib.hid (fun W (hb : Below W1.heap.size W1 W) => rContent_b x W g2)
              have STA' := Lib.hid (fun W (hb : Below W1.heap.size W1 W) => rStays_b C aS k cS F G W HF.out hk (HS.out.below hb) g3)
              clear g1 g2 g3
              refine (Calls.grown (CLI'.out _ (S2.out))).mono ?_
              rintro e w1 ⟨rfl, z2, rfl⟩
              go_wp2_with fail
              refine (Calls.gw_of (CON'.out _ (S2.out.trans ((below_gw W2 z2).mono S2.out.size)))).mono ?_
              rintro e w1 ⟨rfl, z3, rfl⟩
              go_wp2_with fail
              refine (Calls.gw_of (STA'.out _ (S2.out.trans ((below_gw W2 z3).mono S2.out.size)))).mono ?_
              rintro e w1 ⟨rfl, z4, rfl⟩
              go_upto_region 13 with (fail)
              obtain ⟨W3, hW3⟩ : ∃ W3, ((gw W2 z4)).alloc (.cells #[.int .i64 x.day, .int .i64 x.alo, .int .i64 x.ahi, .int .i64 x.wlo, .int .i64 x.whi] 28) = W3 := ⟨_, rfl⟩
              have hbW3 : Below W2.heap.size W2 W3 := by rw [← hW3]; exact (below_gw W2 z4).alloc (by simp [gw_size]) _
              have ZcW3 := Lib.hid ((hbW3.block _ (Array.getElem?_eq_some_iff.1 ZcW2.out).1).trans ZcW2.out)
              have ZxW3 := Lib.hid ((hbW3.block _ (Array.getElem?_eq_some_iff.1 ZxW2.out).1).trans ZxW2.out)
              have ZeW3 := Lib.hid ((hbW3.block _ (Array.getElem?_eq_some_iff.1 ZeW2.out).1).trans ZeW2.out)
              have znW3 : W3.heap[W2.heap.size + z4.bs.size]? = some (.cells #[.int .i64 x.day, .int .i64 x.alo, .int .i64 x.ahi, .int .i64 x.wlo, .int .i64 x.whi] 28 (0, 0)) := by rw [← hW3]; exact alloc_at (by simp [gw_size])
              have ZnW3 := Lib.hid znW3; clear znW3
              have HBW3 := Lib.hid (thru hbW3 HBW2.out)
              have SBW3 := Lib.hid hbW3; clear hbW3
              have HWW3 := Lib.hid hW3; clear hW3
              rw [HWW3.out]
              clear ec0W2 ec1W2 ec2W2 ex0W2 ex1W2 ex2W2 ex3W2 ex4W2 ee0W2 ee1W2 ee2W2 ee3W2 ee4W2
              have S3 := Lib.hid (S2.out.trans (SBW3.out.mono S2.out.size))
              have ee0W3 : W3.cell? ⟨wo.heap.size + z1.bs.size, 0, none⟩ = some (.int .i64 rc.day) := cell_of_block ZeW3.out 0 (by simp)
              have ee1W3 : W3.cell? ⟨wo.heap.size + z1.bs.size, 1, none⟩ = some (.int .i64 rc.alo) := cell_of_block ZeW3.out 1 (by simp)
              have ee2W3 : W3.cell? ⟨wo.heap.size + z1.bs.size, 2, none⟩ = some (.int .i64 rc.ahi) := cell_of_block ZeW3.out 2 (by simp)
              have ee3W3 : W3.cell? ⟨wo.heap.size + z1.bs.size, 3, none⟩ = some (.int .i64 rc.wlo) := cell_of_block ZeW3.out 3 (by simp)
              have ee4W3 : W3.cell? ⟨wo.heap.size + z1.bs.size, 4, none⟩ = some (.int .i64 rc.whi) := cell_of_block ZeW3.out 4 (by simp)
              have leW3 := (Array.getElem?_eq_some_iff.1 ZeW3.out).1
              have en0W3 : W3.cell? ⟨W2.heap.size + z4.bs.size, 0, none⟩ = some (.int .i64 x.day) := cell_of_block ZnW3.out 0 (by simp)
              have en1W3 : W3.cell? ⟨W2.heap.size + z4.bs.size, 1, none⟩ = some (.int .i64 x.alo) := cell_of_block ZnW3.out 1 (by simp)
              have en2W3 : W3.cell? ⟨W2.heap.size + z4.bs.size, 2, none⟩ = some (.int .i64 x.ahi) := cell_of_block ZnW3.out 2 (by simp)
              have en3W3 : W3.cell? ⟨W2.heap.size + z4.bs.size, 3, none⟩ = some (.int .i64 x.wlo) := cell_of_block ZnW3.out 3 (by simp)
              have en4W3 : W3.cell? ⟨W2.heap.size + z4.bs.size, 4, none⟩ = some (.int .i64 x.whi) := cell_of_block ZnW3.out 4 (by simp)
              have lnW3 := (Array.getElem?_eq_some_iff.1 ZnW3.out).1
              clear ee0W3 ee1W3 ee2W3 ee3W3 ee4W3 en0W3 en1W3 en2W3 en3W3 en4W3
              skip
              go_wp2_with fail
              go_loopw [78] (fun t wr => ∃ (j : Nat) (y : Cont), j ≤ n ∧ t = .int .i64 j ∧ Hid (folS C k F G M (n - j) j y = (rc, ri, re)) ∧ wr.heap[w.heap.size]? = some (.cells #[.int .i64 C.days, .slice C.aA C.nA C.cA, .slice C.aW C.nW C.cW] 24 (0, 0)) ∧ wr.heap[wo.heap.size + z1.bs.size]? = some (.cells #[.int .i64 rc.day, .int .i64 rc.alo, .int .i64 rc.ahi, .int .i64 rc.wlo, .int .i64 rc.whi] 28 (0, 0)) ∧ wr.heap[W2.heap.size + z4.bs.size]? = some (.cells #[.int .i64 y.day, .int .i64 y.alo, .int .i64 y.ahi, .int .i64 y.wlo, .int .i64 y.whi] 28 (0, 0)) ∧ Hid (Below W1.heap.size W1 wr)) (fun t _ => n - (intOf t).toNat)
              case atStart => exact ⟨0, x, Nat.zero_le _, rfl, FS, ZcW3.out, ZeW3.out, ZnW3.out, Lib.hid S3.out⟩
              case round =>
                obtain ⟨j, y, hj, rfl, hR, h0, h1, h2, SV⟩ := hrel
                have HBv := Lib.hid (thru SV.out HBc.out)
                have H0 := Lib.hid h0; clear h0
                have H1 := Lib.hid h1; clear h1
                have H2 := Lib.hid h2; clear h2
                have nen : wo.heap.size + z1.bs.size < W2.heap.size + z4.bs.size := by omega
                have gen : W1.heap.size ≤ W2.heap.size + z4.bs.size := by have := S2.out.size; omega
                by_cases hlt : j < n
                · rcases HRL.out with hz | ⟨b, off, rfl, lb, hc⟩
                  · omega
                  · obtain ⟨m0, m1, m2, m3, m4⟩ := hc j hlt
                    have lbr := Nat.lt_of_lt_of_le lb SV.out.size
                    have q0 := below_cell SV.out m0
                    have q1 := below_cell SV.out m1
                    have q2 := below_cell SV.out m2
                    have q3 := below_cell SV.out m3
                    have q4 := below_cell SV.out m4
                    clear hc m0 m1 m2 m3 m4
                    have FO := folS_ok (C := C) (k := k) (F := F) (G := G) (M := M) (y := y) hlt
                    have FB := folS_bad (C := C) (k := k) (F := F) (G := G) (M := M) (y := y) hlt
                    rw [hR.out] at FO FB
                    obtain ⟨m, hm⟩ : ∃ m, M j = m := ⟨_, rfl⟩
                    rw [hm] at FO FB q0 q1 q2 q3 q4
                    clear hm hR
                    have ME := fun W (hb : Below W1.heap.size W1 W) => Measure_any C y (aS) k cS F G m W (HC.out.below hb) HF.out hk (HS.out.below hb)
                    obtain ⟨f, hf0⟩ : ∃ f, measF C y k F G m = f := ⟨_, rfl⟩
                    obtain ⟨v, hv⟩ : ∃ v, measV C y k F G m = v := ⟨_, rfl⟩
                    rw [hf0, hv] at ME
                    rw [hf0, hv] at FO
                    rw [hf0] at FB
                    clear hf0 hv
                    unfold Reg.val Cont.val at ME
                    have ME' := Lib.hid ME; clear ME
                    by_cases ff : f = 0
                    · subst ff
                      have HRR := Lib.hid (FO rfl).symm; clear FO FB
                      go_upto_region 16 with (fail)
                      obtain ⟨W11, hW11⟩ : ∃ W11, ((wr)).alloc (.cells #[.int .i64 m.day, .int .i64 m.vlo, .int .i64 m.vhi, .int .i64 m.slo, .int .i64 m.shi] 44) = W11 := ⟨_, rfl⟩
                      have hbW11 : Below wr.heap.size wr W11 := by rw [← hW11]; exact (Below.refl _ wr).alloc (by simp [gw_size]) _
                      have ZcW11 := Lib.hid ((hbW11.block _ (Array.getElem?_eq_some_iff.1 H0.out).1).trans H0.out)
                      have ZeW11 := Lib.hid ((hbW11.block _ (Array.getElem?_eq_some_iff.1 H1.out).1).trans H1.out)
                      have ZnW11 := Lib.hid ((hbW11.block _ (Array.getElem?_eq_some_iff.1 H2.out).1).trans H2.out)
                      have zgW11 : W11.heap[wr.heap.size]? = some (.cells #[.int .i64 m.day, .int .i64 m.vlo, .int .i64 m.vhi, .int .i64 m.slo, .int .i64 m.shi] 44 (0, 0)) := by rw [← hW11]; exact alloc_at (by simp [gw_size])
                      have ZgW11 := Lib.hid zgW11; clear zgW11
                      have HBW11 := Lib.hid (thru hbW11 HBv.out)
                      have SBW11 := Lib.hid hbW11; clear hbW11
                      have HWW11 := Lib.hid hW11; clear hW11
                      rw [HWW11.out]
                      have S11 := Lib.hid (SV.out.trans (SBW11.out.mono SV.out.size))
                      have ec0W11 : W11.cell? ⟨w.heap.size, 0, none⟩ = some (.int .i64 C.days) := cell_of_block ZcW11.out 0 (by simp)
                      have ec1W11 : W11.cell? ⟨w.heap.size, 1, none⟩ = some (.slice C.aA C.nA C.cA) := cell_of_block ZcW11.out 1 (by simp)
                      have ec2W11 : W11.cell? ⟨w.heap.size, 2, none⟩ = some (.slice C.aW C.nW C.cW) := cell_of_block ZcW11.out 2 (by simp)
                      have lcW11 := (Array.getElem?_eq_some_iff.1 ZcW11.out).1
                      have en0W11 : W11.cell? ⟨W2.heap.size + z4.bs.size, 0, none⟩ = some (.int .i64 y.day) := cell_of_block ZnW11.out 0 (by simp)
                      have en1W11 : W11.cell? ⟨W2.heap.size + z4.bs.size, 1, none⟩ = some (.int .i64 y.alo) := cell_of_block ZnW11.out 1 (by simp)
                      have en2W11 : W11.cell? ⟨W2.heap.size + z4.bs.size, 2, none⟩ = some (.int .i64 y.ahi) := cell_of_block ZnW11.out 2 (by simp)
                      have en3W11 : W11.cell? ⟨W2.heap.size + z4.bs.size, 3, none⟩ = some (.int .i64 y.wlo) := cell_of_block ZnW11.out 3 (by simp)
                      have en4W11 : W11.cell? ⟨W2.heap.size + z4.bs.size, 4, none⟩ = some (.int .i64 y.whi) := cell_of_block ZnW11.out 4 (by simp)
                      have lnW11 := (Array.getElem?_eq_some_iff.1 ZnW11.out).1
                      have eg0W11 : W11.cell? ⟨wr.heap.size, 0, none⟩ = some (.int .i64 m.day) := cell_of_block ZgW11.out 0 (by simp)
                      have eg1W11 : W11.cell? ⟨wr.heap.size, 1, none⟩ = some (.int .i64 m.vlo) := cell_of_block ZgW11.out 1 (by simp)
                      have eg2W11 : W11.cell? ⟨wr.heap.size, 2, none⟩ = some (.int .i64 m.vhi) := cell_of_block ZgW11.out 2 (by simp)
                      have eg3W11 : W11.cell? ⟨wr.heap.size, 3, none⟩ = some (.int .i64 m.slo) := cell_of_block ZgW11.out 3 (by simp)
                      have eg4W11 : W11.cell? ⟨wr.heap.size, 4, none⟩ = some (.int .i64 m.shi) := cell_of_block ZgW11.out 4 (by simp)
                      have lgW11 := (Array.getElem?_eq_some_iff.1 ZgW11.out).1
                      go_wp2_with fail
                      refine (Calls.grown (ME'.out _ (S11.out))).mono ?_
                      rintro e w1 ⟨rfl, z21, rfl⟩
                      go_upto_region 17 with (fail)
                      obtain ⟨W12, hW12⟩ : ∃ W12, ((gw W11 z21)).alloc (.cells #[.int .i64 v.day, .int .i64 v.alo, .int .i64 v.ahi, .int .i64 v.wlo, .int .i64 v.whi] 28) = W12 := ⟨_, rfl⟩
                      have hbW12 : Below W11.heap.size W11 W12 := by rw [← hW12]; exact (below_gw W11 z21).alloc (by simp [gw_size]) _
                      have ZcW12 := Lib.hid ((hbW12.block _ (Array.getElem?_eq_some_iff.1 ZcW11.out).1).trans ZcW11.out)
                      have ZeW12 := Lib.hid ((hbW12.block _ (Array.getElem?_eq_some_iff.1 ZeW11.out).1).trans ZeW11.out)
                      have ZnW12 := Lib.hid ((hbW12.block _ (Array.getElem?_eq_some_iff.1 ZnW11.out).1).trans ZnW11.out)
                      have ZgW12 := Lib.hid ((hbW12.block _ (Array.getElem?_eq_some_iff.1 ZgW11.out).1).trans ZgW11.out)
                      have zvW12 : W12.heap[W11.heap.size + z21.bs.size]? = some (.cells #[.int .i64 v.day, .int .i64 v.alo, .int .i64 v.ahi, .int .i64 v.wlo, .int .i64 v.whi] 28 (0, 0)) := by rw [← hW12]; exact alloc_at (by simp [gw_size])
                      have ZvW12 := Lib.hid zvW12; clear zvW12
                      have HBW12 := Lib.hid (thru hbW12 HBW11.out)
                      have SBW12 := Lib.hid hbW12; clear hbW12
                      have HWW12 := Lib.hid hW12; clear hW12
                      rw [HWW12.out]
                      clear ec0W11 ec1W11 ec2W11 en0W11 en1W11 en2W11 en3W11 en4W11 eg0W11 eg1W11 eg2W11 eg3W11 eg4W11
                      have S12 := Lib.hid (S11.out.trans (SBW12.out.mono S11.out.size))
                      have ev0W12 : W12.cell? ⟨W11.heap.size + z21.bs.size, 0, none⟩ = some (.int .i64 v.day) := cell_of_block ZvW12.out 0 (by simp)
                      have ev1W12 : W12.cell? ⟨W11.heap.size + z21.bs.size, 1, none⟩ = some (.int .i64 v.alo) := cell_of_block ZvW12.out 1 (by simp)
                      have ev2W12 : W12.cell? ⟨W11.heap.size + z21.bs.size, 2, none⟩ = some (.int .i64 v.ahi) := cell_of_block ZvW12.out 2 (by simp)
                      have ev3W12 : W12.cell? ⟨W11.heap.size + z21.bs.size, 3, none⟩ = some (.int .i64 v.wlo) := cell_of_block ZvW12.out 3 (by simp)
                      have ev4W12 : W12.cell? ⟨W11.heap.size + z21.bs.size, 4, none⟩ = some (.int .i64 v.whi) := cell_of_block ZvW12.out 4 (by simp)
                      have lvW12 := (Array.getElem?_eq_some_iff.1 ZvW12.out).1
                      have en0W12 : W12.cell? ⟨W2.heap.size + z4.bs.size, 0, none⟩ = some (.int .i64 y.day) := cell_of_block ZnW12.out 0 (by simp)
                      have fn0W12 := frozen_of_block ZnW12.out 0
                      have en1W12 : W12.cell? ⟨W2.heap.size + z4.bs.size, 1, none⟩ = some (.int .i64 y.alo) := cell_of_block ZnW12.out 1 (by simp)
                      have fn1W12 := frozen_of_block ZnW12.out 1
                      have en2W12 : W12.cell? ⟨W2.heap.size + z4.bs.size, 2, none⟩ = some (.int .i64 y.ahi) := cell_of_block ZnW12.out 2 (by simp)
                      have fn2W12 := frozen_of_block ZnW12.out 2
                      have en3W12 : W12.cell? ⟨W2.heap.size + z4.bs.size, 3, none⟩ = some (.int .i64 y.wlo) := cell_of_block ZnW12.out 3 (by simp)
                      have fn3W12 := frozen_of_block ZnW12.out 3
                      have en4W12 : W12.cell? ⟨W2.heap.size + z4.bs.size, 4, none⟩ = some (.int .i64 y.whi) := cell_of_block ZnW12.out 4 (by simp)
                      have fn4W12 := frozen_of_block ZnW12.out 4
                      have lnW12 := (Array.getElem?_eq_some_iff.1 ZnW12.out).1
                      have FS5 := Lib.hid (five_set (by simp) ZnW12.out (.int .i64 v.day) (.int .i64 v.alo) (.int .i64 v.ahi) (.int .i64 v.wlo) (.int .i64 v.whi))
                      have FGR := Lib.hid (five_grown W12 (W2.heap.size + z4.bs.size) (.int .i64 v.day) (.int .i64 v.alo) (.int .i64 v.ahi) (.int .i64 v.wlo) (.int .i64 v.whi))
                      go_wp2_with fail
                      go_roundw
                      case rel => exact ⟨j + 1, v, by omega, by go_num, HRR, (FGR.out.block _ (Array.getElem?_eq_some_iff.1 ZcW12.out).1 (by simp <;> omega)).trans ZcW12.out, (FGR.out.block _ (Array.getElem?_eq_some_iff.1 ZeW12.out).1 (by simp <;> omega)).trans ZeW12.out, FS5.out, Lib.hid (S12.out.grown FGR.out S12.out.size (fun k e => by cases e; omega))⟩
                      case measure => simp [intOf]; omega
                    · obtain ⟨⟨d0, d1, d2, d3, d4⟩, r1, r2⟩ := three_eq (FB ff)
                      simp only [zeroCont] at d0 d1 d2 d3 d4
                      clear FO FB
                      have ne : (f != 0) = true := by simpa using ff
                      clear ff
                      go_upto_region 16 with (fail)
                      obtain ⟨W11, hW11⟩ : ∃ W11, ((wr)).alloc (.cells #[.int .i64 m.day, .int .i64 m.vlo, .int .i64 m.vhi, .int .i64 m.slo, .int .i64 m.shi] 44) = W11 := ⟨_, rfl⟩
                      have hbW11 : Below wr.heap.size wr W11 := by rw [← hW11]; exact (Below.refl _ wr).alloc (by simp [gw_size]) _
                      have ZcW11 := Lib.hid ((hbW11.block _ (Array.getElem?_eq_some_iff.1 H0.out).1).trans H0.out)
                      have ZeW11 := Lib.hid ((hbW11.block _ (Array.getElem?_eq_some_iff.1 H1.out).1).trans H1.out)
                      have ZnW11 := Lib.hid ((hbW11.block _ (Array.getElem?_eq_some_iff.1 H2.out).1).trans H2.out)
                      have zgW11 : W11.heap[wr.heap.size]? = some (.cells #[.int .i64 m.day, .int .i64 m.vlo, .int .i64 m.vhi, .int .i64 m.slo, .int .i64 m.shi] 44 (0, 0)) := by rw [← hW11]; exact alloc_at (by simp [gw_size])
                      have ZgW11 := Lib.hid zgW11; clear zgW11
                      have HBW11 := Lib.hid (thru hbW11 HBv.out)
                      have SBW11 := Lib.hid hbW11; clear hbW11
                      have HWW11 := Lib.hid hW11; clear hW11
                      rw [HWW11.out]
                      have S11 := Lib.hid (SV.out.trans (SBW11.out.mono SV.out.size))
                      have ec0W11 : W11.cell? ⟨w.heap.size, 0, none⟩ = some (.int .i64 C.days) := cell_of_block ZcW11.out 0 (by simp)
                      have ec1W11 : W11.cell? ⟨w.heap.size, 1, none⟩ = some (.slice C.aA C.nA C.cA) := cell_of_block ZcW11.out 1 (by simp)
                      have ec2W11 : W11.cell? ⟨w.heap.size, 2, none⟩ = some (.slice C.aW C.nW C.cW) := cell_of_block ZcW11.out 2 (by simp)
                      have lcW11 := (Array.getElem?_eq_some_iff.1 ZcW11.out).1
                      have en0W11 : W11.cell? ⟨W2.heap.size + z4.bs.size, 0, none⟩ = some (.int .i64 y.day) := cell_of_block ZnW11.out 0 (by simp)
                      have en1W11 : W11.cell? ⟨W2.heap.size + z4.bs.size, 1, none⟩ = some (.int .i64 y.alo) := cell_of_block ZnW11.out 1 (by simp)
                      have en2W11 : W11.cell? ⟨W2.heap.size + z4.bs.size, 2, none⟩ = some (.int .i64 y.ahi) := cell_of_block ZnW11.out 2 (by simp)
                      have en3W11 : W11.cell? ⟨W2.heap.size + z4.bs.size, 3, none⟩ = some (.int .i64 y.wlo) := cell_of_block ZnW11.out 3 (by simp)
                      have en4W11 : W11.cell? ⟨W2.heap.size + z4.bs.size, 4, none⟩ = some (.int .i64 y.whi) := cell_of_block ZnW11.out 4 (by simp)
                      have lnW11 := (Array.getElem?_eq_some_iff.1 ZnW11.out).1
                      have eg0W11 : W11.cell? ⟨wr.heap.size, 0, none⟩ = some (.int .i64 m.day) := cell_of_block ZgW11.out 0 (by simp)
                      have eg1W11 : W11.cell? ⟨wr.heap.size, 1, none⟩ = some (.int .i64 m.vlo) := cell_of_block ZgW11.out 1 (by simp)
                      have eg2W11 : W11.cell? ⟨wr.heap.size, 2, none⟩ = some (.int .i64 m.vhi) := cell_of_block ZgW11.out 2 (by simp)
                      have eg3W11 : W11.cell? ⟨wr.heap.size, 3, none⟩ = some (.int .i64 m.slo) := cell_of_block ZgW11.out 3 (by simp)
                      have eg4W11 : W11.cell? ⟨wr.heap.size, 4, none⟩ = some (.int .i64 m.shi) := cell_of_block ZgW11.out 4 (by simp)
                      have lgW11 := (Array.getElem?_eq_some_iff.1 ZgW11.out).1
                      go_wp2_with fail
                      refine (Calls.grown (ME'.out _ (S11.out))).mono ?_
                      rintro e w1 ⟨rfl, z21, rfl⟩
                      go_upto_region 17 with (fail)
                      obtain ⟨W12, hW12⟩ : ∃ W12, ((gw W11 z21)).alloc (.cells #[.int .i64 v.day, .int .i64 v.alo, .int .i64 v.ahi, .int .i64 v.wlo, .int .i64 v.whi] 28) = W12 := ⟨_, rfl⟩
                      have hbW12 : Below W11.heap.size W11 W12 := by rw [← hW12]; exact (below_gw W11 z21).alloc (by simp [gw_size]) _
                      have ZcW12 := Lib.hid ((hbW12.block _ (Array.getElem?_eq_some_iff.1 ZcW11.out).1).trans ZcW11.out)
                      have ZeW12 := Lib.hid ((hbW12.block _ (Array.getElem?_eq_some_iff.1 ZeW11.out).1).trans ZeW11.out)
                      have ZnW12 := Lib.hid ((hbW12.block _ (Array.getElem?_eq_some_iff.1 ZnW11.out).1).trans ZnW11.out)
                      have ZgW12 := Lib.hid ((hbW12.block _ (Array.getElem?_eq_some_iff.1 ZgW11.out).1).trans ZgW11.out)
                      have zvW12 : W12.heap[W11.heap.size + z21.bs.size]? = some (.cells #[.int .i64 v.day, .int .i64 v.alo, .int .i64 v.ahi, .int .i64 v.wlo, .int .i64 v.whi] 28 (0, 0)) := by rw [← hW12]; exact alloc_at (by simp [gw_size])
                      have ZvW12 := Lib.hid zvW12; clear zvW12
                      have HBW12 := Lib.hid (thru hbW12 HBW11.out)
                      have SBW12 := Lib.hid hbW12; clear hbW12
                      have HWW12 := Lib.hid hW12; clear hW12
                      rw [HWW12.out]
                      clear ec0W11 ec1W11 ec2W11 en0W11 en1W11 en2W11 en3W11 en4W11 eg0W11 eg1W11 eg2W11 eg3W11 eg4W11
                      have S12 := Lib.hid (S11.out.trans (SBW12.out.mono S11.out.size))
                      have ee0W12 : W12.cell? ⟨wo.heap.size + z1.bs.size, 0, none⟩ = some (.int .i64 rc.day) := cell_of_block ZeW12.out 0 (by simp)
                      have ee1W12 : W12.cell? ⟨wo.heap.size + z1.bs.size, 1, none⟩ = some (.int .i64 rc.alo) := cell_of_block ZeW12.out 1 (by simp)
                      have ee2W12 : W12.cell? ⟨wo.heap.size + z1.bs.size, 2, none⟩ = some (.int .i64 rc.ahi) := cell_of_block ZeW12.out 2 (by simp)
                      have ee3W12 : W12.cell? ⟨wo.heap.size + z1.bs.size, 3, none⟩ = some (.int .i64 rc.wlo) := cell_of_block ZeW12.out 3 (by simp)
                      have ee4W12 : W12.cell? ⟨wo.heap.size + z1.bs.size, 4, none⟩ = some (.int .i64 rc.whi) := cell_of_block ZeW12.out 4 (by simp)
                      have leW12 := (Array.getElem?_eq_some_iff.1 ZeW12.out).1
                      rw [d0] at ee0W12
                      rw [d1] at ee1W12
                      rw [d2] at ee2W12
                      rw [d3] at ee3W12
                      rw [d4] at ee4W12
                      clear d0 d1 d2 d3 d4
                      go_wp2_with fail
                      refine (Calls.grown (alive_any _)).mono ?_
                      rintro e w1 ⟨rfl, z22, rfl⟩
                      go_wp2_with fail
                      go_ret
                      exact ⟨rfl, HBW12.out.gw z22⟩
                · obtain rfl : n = j := by omega
                  obtain ⟨⟨d0, d1, d2, d3, d4⟩, r1, r2⟩ := three_eq (hR.out.symm.trans folS_end)
                  have ee0wr : wr.cell? ⟨wo.heap.size + z1.bs.size, 0, none⟩ = some (.int .i64 rc.day) := cell_of_block H1.out 0 (by simp)
                  have ee1wr : wr.cell? ⟨wo.heap.size + z1.bs.size, 1, none⟩ = some (.int .i64 rc.alo) := cell_of_block H1.out 1 (by simp)
                  have ee2wr : wr.cell? ⟨wo.heap.size + z1.bs.size, 2, none⟩ = some (.int .i64 rc.ahi) := cell_of_block H1.out 2 (by simp)
                  have ee3wr : wr.cell? ⟨wo.heap.size + z1.bs.size, 3, none⟩ = some (.int .i64 rc.wlo) := cell_of_block H1.out 3 (by simp)
                  have ee4wr : wr.cell? ⟨wo.heap.size + z1.bs.size, 4, none⟩ = some (.int .i64 rc.whi) := cell_of_block H1.out 4 (by simp)
                  have lewr := (Array.getElem?_eq_some_iff.1 H1.out).1
                  have en0wr : wr.cell? ⟨W2.heap.size + z4.bs.size, 0, none⟩ = some (.int .i64 y.day) := cell_of_block H2.out 0 (by simp)
                  have en1wr : wr.cell? ⟨W2.heap.size + z4.bs.size, 1, none⟩ = some (.int .i64 y.alo) := cell_of_block H2.out 1 (by simp)
                  have en2wr : wr.cell? ⟨W2.heap.size + z4.bs.size, 2, none⟩ = some (.int .i64 y.ahi) := cell_of_block H2.out 2 (by simp)
                  have en3wr : wr.cell? ⟨W2.heap.size + z4.bs.size, 3, none⟩ = some (.int .i64 y.wlo) := cell_of_block H2.out 3 (by simp)
                  have en4wr : wr.cell? ⟨W2.heap.size + z4.bs.size, 4, none⟩ = some (.int .i64 y.whi) := cell_of_block H2.out 4 (by simp)
                  have lnwr := (Array.getElem?_eq_some_iff.1 H2.out).1
                  rw [d0] at ee0wr
                  rw [d1] at ee1wr
                  rw [d2] at ee2wr
                  rw [d3] at ee3wr
                  rw [d4] at ee4wr
                  clear d0 d1 d2 d3 d4
                  go_wp2_with fail
                  refine (Calls.grown (alive_any _)).mono ?_
                  rintro e w1 ⟨rfl, z21, rfl⟩
                  go_wp2_with fail
                  go_ret
                  exact ⟨rfl, HBv.out.gw z21⟩
end Go.Proofs.Ytljofnmgddfljaa
