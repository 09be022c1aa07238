/- HouseFollows walked: it returns true. No conditions beyond each theorem's own. -/
import Derived.Test.YtljofnmgddfljaaFx
import Derived.Test.YtljofnmgddfljaaFn
set_option linter.unusedVariables false
set_option linter.unusedSimpArgs false
set_option linter.unusedSectionVars false
set_option linter.constructorNameAsVariable false
namespace Go.Proofs.Ytljofnmgddfljaa
open Go.RowKit

attribute [local go_sem] gw_cell gw_frozen gw_size

set_option maxRecDepth 100000 in
set_option maxHeartbeats 16000000 in
theorem follows_any (C : Clim) (x : Cont) (aS aL : Option Addr) (k cS n cL : Nat) (F G : Nat → Int) (M : Nat → Reg) (day : Int) (w : World) (hC : C.In w) (hl : Lens C k) (hS : SpansAt w aS k F G) (hL : RegsAt w aL n M) (hn : n ≤ 9223372036854775807) :
    Calls Try.prog 12 #[.agg #[.int .i64 C.days, .slice C.aA C.nA C.cA, .slice C.aW C.nW C.cW], x.val, .slice aS k cS, .slice aL n cL, .int .i64 day] w (True1 w) := by
  unfold Cont.val
  obtain ⟨W1, hW1⟩ : ∃ W1, ((w.alloc (.cells #[.int .i64 C.days, .slice C.aA C.nA C.cA, .slice C.aW C.nW C.cW] 24)).alloc (.cells #[.int .i64 x.day, .int .i64 x.alo, .int .i64 x.ahi, .int .i64 x.wlo, .int .i64 x.whi] 28)).alloc (.cells #[.int .i64 day] 3) = W1 := ⟨_, rfl⟩
  have hBc : Below w.heap.size w W1 := by rw [← hW1]; exact ((below_alloc _ _).alloc (by simp) _).alloc (by simp <;> omega) _
  have zc0 : W1.heap[w.heap.size]? = some (.cells #[.int .i64 C.days, .slice C.aA C.nA C.cA, .slice C.aW C.nW C.cW] 24 (0, 0)) := by rw [← hW1]; exact alloc_keep (alloc_keep (alloc_at rfl))
  have zc1 : W1.heap[w.heap.size + 1]? = some (.cells #[.int .i64 x.day, .int .i64 x.alo, .int .i64 x.ahi, .int .i64 x.wlo, .int .i64 x.whi] 28 (0, 0)) := by rw [← hW1]; exact alloc_keep (alloc_at (by simp))
  have zc2 : W1.heap[w.heap.size + 1 + 1]? = some (.cells #[.int .i64 day] 3 (0, 0)) := by rw [← hW1]; exact alloc_at (by simp <;> omega)
  have c00 : W1.cell? ⟨w.heap.size, 0, none⟩ = some (.int .i64 C.days) := cell_of_block zc0 0 (by simp)
  have c01 : W1.cell? ⟨w.heap.size, 1, none⟩ = some (.slice C.aA C.nA C.cA) := cell_of_block zc0 1 (by simp)
  have c02 : W1.cell? ⟨w.heap.size, 2, none⟩ = some (.slice C.aW C.nW C.cW) := cell_of_block zc0 2 (by simp)
  have c10 : W1.cell? ⟨w.heap.size + 1, 0, none⟩ = some (.int .i64 x.day) := cell_of_block zc1 0 (by simp)
  have c11 : W1.cell? ⟨w.heap.size + 1, 1, none⟩ = some (.int .i64 x.alo) := cell_of_block zc1 1 (by simp)
  have c12 : W1.cell? ⟨w.heap.size + 1, 2, none⟩ = some (.int .i64 x.ahi) := cell_of_block zc1 2 (by simp)
  have c13 : W1.cell? ⟨w.heap.size + 1, 3, none⟩ = some (.int .i64 x.wlo) := cell_of_block zc1 3 (by simp)
  have c14 : W1.cell? ⟨w.heap.size + 1, 4, none⟩ = some (.int .i64 x.whi) := cell_of_block zc1 4 (by simp)
  have c20 : W1.cell? ⟨w.heap.size + 1 + 1, 0, none⟩ = some (.int .i64 day) := cell_of_block zc2 0 (by simp)
  have lc0 := (Array.getElem?_eq_some_iff.1 zc0).1
  have lc1 := (Array.getElem?_eq_some_iff.1 zc1).1
  have lc2 := (Array.getElem?_eq_some_iff.1 zc2).1
  have Zc0 := Lib.hid zc0
  have Zc1 := Lib.hid zc1
  clear zc0 zc1 zc2
  have HBc := Lib.hid hBc; clear hBc
  have HWc := Lib.hid hW1; clear hW1
  have hf : C.Fits := ⟨hl.na, hl.nw, hl.la, hl.lw⟩
  have hk := hl.st
  have HC := Lib.hid (hC.below HBc.out); clear hC
  have HS := Lib.hid (hS.below HBc.out); clear hS
  have HRL := Lib.hid (hL.below HBc.out); clear hL
  have HF := Lib.hid hf; clear hf
  have HLN := Lib.hid hl; clear hl
  obtain ⟨⟨rc, ri, re⟩, hR⟩ : ∃ R, folV C k F G M x n = R := ⟨_, rfl⟩
  have FOL := fun W (hb : Below W1.heap.size W1 W) => Follow_any C x aS aL k cS n cL F G M (rc, ri, re) W (HC.out.below hb) HF.out hk (HS.out.below hb) (HRL.out.below hb) hn hR
  have RFO := fun W (hb : Below W1.heap.size W1 W) => rFollow_any C x aS aL k cS n cL F G M (rc, ri, re) W (HC.out.below hb) HF.out hk (HS.out.below hb) (HRL.out.below hb) hn hR
  dsimp only at FOL RFO
  unfold Cont.val at FOL RFO
  have FOL' := Lib.hid FOL; clear FOL
  have RFO' := Lib.hid RFO; clear RFO
  clear hR
  have GRX := Lib.hid (fun W b d (hb : Below W1.heap.size W1 W) (hlt : b < W.heap.size) (hc : W.cell? ⟨b, 0, none⟩ = some (.int .i64 d)) => great_x C x aS k cS (some ⟨b, 0, none⟩) 1 1 (fun _ => d) W (HC.out.below hb) HLN.out (ints_one hlt hc) (by omega))
  have FLX := Lib.hid (fun W (hb : Below W1.heap.size W1 W) => Floors_any C x day W (HC.out.below hb) HF.out)
  have RFX := Lib.hid (fun W (hb : Below W1.heap.size W1 W) => rFloors_any C x day W (HC.out.below hb) HF.out)
  have GR := GRX.out _ _ _ (Below.refl _ _) lc2 c20
  clear c20
  obtain ⟨gb, hgb⟩ : ∃ gb, greatB C x k 1 (fun _ => day) = gb := ⟨_, rfl⟩
  rw [hgb] at GR
  have HGB := Lib.hid hgb; clear hgb
  unfold Cont.val at GR
  have GR' := Lib.hid GR; clear GR
  cases gb with
  | true =>
    go_enter Try.func12, Try.ntmps12
    go_wp2_with fail
    rw [HWc.out]
    go_wp2_with fail
    refine (Calls.grown (GR'.out)).mono ?_
    rintro e w1 ⟨rfl, z1, rfl⟩
    go_wp2_with fail
    refine (Calls.gw_of (alive_any _)).mono ?_
    rintro e w1 ⟨rfl, z2, rfl⟩
    go_wp2_with fail
    go_ret
    exact ⟨rfl, HBc.out.gw z2⟩
  | false =>
    by_cases n1 : 68 < n
    · by_cases n2 : n ≤ 64
      · omega
      · have n3 : 12 < n := by omega
        go_enter Try.func12, Try.ntmps12
        go_wp2_with fail
        rw [HWc.out]
        go_wp2_with fail
        refine (Calls.grown (GR'.out)).mono ?_
        rintro e w1 ⟨rfl, z1, rfl⟩
        go_wp2_with fail
        refine (Calls.gw_of (alive_any _)).mono ?_
        rintro e w1 ⟨rfl, z2, rfl⟩
        go_wp2_with fail
        go_ret
        exact ⟨rfl, HBc.out.gw z2⟩
    · by_cases n2 : 12 < n
      · by_cases n3 : n ≤ 64
        · go_enter Try.func12, Try.ntmps12
          go_wp2_with fail
          rw [HWc.out]
          go_wp2_with fail
          refine (Calls.grown (GR'.out)).mono ?_
          rintro e w1 ⟨rfl, z1, rfl⟩
          go_wp2_with fail
          refine (Calls.gw_of (alive_any _)).mono ?_
          rintro e w1 ⟨rfl, z2, rfl⟩
          go_wp2_with fail
          go_ret
          exact ⟨rfl, HBc.out.gw z2⟩
        · go_enter Try.func12, Try.ntmps12
          go_wp2_with fail
          rw [HWc.out]
          go_wp2_with fail
          refine (Calls.grown (GR'.out)).mono ?_
          rintro e w1 ⟨rfl, z1, rfl⟩
          go_wp2_with fail
          go_loopw [47] (fun t wr => ∃ i : Nat, i ≤ n ∧ t = .int .i64 i ∧ Hid (Below W1.heap.size W1 wr)) (fun t _ => n - (intOf t).toNat)
          case atStart => exact ⟨0, Nat.zero_le _, rfl, Lib.hid (below_gw W1 _)⟩
          case round =>
            obtain ⟨i, hi, rfl, SB⟩ := hrel
            have HBw := Lib.hid (thru SB.out HBc.out)
            have Y0 := Lib.hid ((SB.out.block _ lc0).trans Zc0.out)
            have Y1 := Lib.hid ((SB.out.block _ lc1).trans Zc1.out)
            clear c00 c01 c02 c10 c11 c12 c13 c14
            by_cases hlt : i < n
            · rcases HRL.out with hz | ⟨b, off, rfl, lb, hc⟩
              · omega
              · obtain ⟨m0, m1, m2, m3, m4⟩ := hc i hlt
                have lbr := Nat.lt_of_lt_of_le lb SB.out.size
                have q0 := below_cell SB.out m0
                have q1 := below_cell SB.out m1
                have q2 := below_cell SB.out m2
                have q3 := below_cell SB.out m3
                have q4 := below_cell SB.out m4
                clear hc m0 m1 m2 m3 m4
                obtain ⟨m, hm⟩ : ∃ m, M i = m := ⟨_, rfl⟩
                rw [hm] at q0 q1 q2 q3 q4
                clear hm
                go_upto_region 6 with (fail)
                obtain ⟨W2, hW2⟩ : ∃ W2, ((wr)).alloc (.cells #[.int .i64 m.day, .int .i64 m.vlo, .int .i64 m.vhi, .int .i64 m.slo, .int .i64 m.shi] 44) = W2 := ⟨_, rfl⟩
                have hbW2 : Below wr.heap.size wr W2 := by rw [← hW2]; exact (Below.refl _ wr).alloc (by simp [gw_size]) _
                have ZcW2 := Lib.hid ((hbW2.block _ (Array.getElem?_eq_some_iff.1 Y0.out).1).trans Y0.out)
                have ZxW2 := Lib.hid ((hbW2.block _ (Array.getElem?_eq_some_iff.1 Y1.out).1).trans Y1.out)
                have zmW2 : W2.heap[wr.heap.size]? = some (.cells #[.int .i64 m.day, .int .i64 m.vlo, .int .i64 m.vhi, .int .i64 m.slo, .int .i64 m.shi] 44 (0, 0)) := by rw [← hW2]; exact alloc_at (by simp [gw_size])
                have ZmW2 := Lib.hid zmW2; clear zmW2
                have HBW2 := Lib.hid (thru hbW2 HBw.out)
                have SBW2 := Lib.hid hbW2; clear hbW2
                have HWW2 := Lib.hid hW2; clear hW2
                rw [HWW2.out]
                have S2 := Lib.hid (SB.out.trans (SBW2.out.mono SB.out.size))
                have ec0W2 : W2.cell? ⟨w.heap.size, 0, none⟩ = some (.int .i64 C.days) := cell_of_block ZcW2.out 0 (by simp)
                have ec1W2 : W2.cell? ⟨w.heap.size, 1, none⟩ = some (.slice C.aA C.nA C.cA) := cell_of_block ZcW2.out 1 (by simp)
                have ec2W2 : W2.cell? ⟨w.heap.size, 2, none⟩ = some (.slice C.aW C.nW C.cW) := cell_of_block ZcW2.out 2 (by simp)
                have lcW2 := (Array.getElem?_eq_some_iff.1 ZcW2.out).1
                have ex0W2 : W2.cell? ⟨w.heap.size + 1, 0, none⟩ = some (.int .i64 x.day) := cell_of_block ZxW2.out 0 (by simp)
                have ex1W2 : W2.cell? ⟨w.heap.size + 1, 1, none⟩ = some (.int .i64 x.alo) := cell_of_block ZxW2.out 1 (by simp)
                have ex2W2 : W2.cell? ⟨w.heap.size + 1, 2, none⟩ = some (.int .i64 x.ahi) := cell_of_block ZxW2.out 2 (by simp)
                have ex3W2 : W2.cell? ⟨w.heap.size + 1, 3, none⟩ = some (.int .i64 x.wlo) := cell_of_block ZxW2.out 3 (by simp)
                have ex4W2 : W2.cell? ⟨w.heap.size + 1, 4, none⟩ = some (.int .i64 x.whi) := cell_of_block ZxW2.out 4 (by simp)
                have lxW2 := (Array.getElem?_eq_some_iff.1 ZxW2.out).1
                have em0W2 : W2.cell? ⟨wr.heap.size, 0, none⟩ = some (.int .i64 m.day) := cell_of_block ZmW2.out 0 (by simp)
                have em1W2 : W2.cell? ⟨wr.heap.size, 1, none⟩ = some (.int .i64 m.vlo) := cell_of_block ZmW2.out 1 (by simp)
                have em2W2 : W2.cell? ⟨wr.heap.size, 2, none⟩ = some (.int .i64 m.vhi) := cell_of_block ZmW2.out 2 (by simp)
                have em3W2 : W2.cell? ⟨wr.heap.size, 3, none⟩ = some (.int .i64 m.slo) := cell_of_block ZmW2.out 3 (by simp)
                have em4W2 : W2.cell? ⟨wr.heap.size, 4, none⟩ = some (.int .i64 m.shi) := cell_of_block ZmW2.out 4 (by simp)
                have lmW2 := (Array.getElem?_eq_some_iff.1 ZmW2.out).1
                go_wp2_with fail
                obtain ⟨W3, hW3⟩ : ∃ W3, ((W2)).alloc (.cells #[.int .i64 m.day] 3) = W3 := ⟨_, rfl⟩
                have hbW3 : Below W2.heap.size W2 W3 := by rw [← hW3]; exact (Below.refl _ W2).alloc (by simp [gw_size]) _
                have ZcW3 := Lib.hid ((hbW3.block _ (Array.getElem?_eq_some_iff.1 ZcW2.out).1).trans ZcW2.out)
                have ZxW3 := Lib.hid ((hbW3.block _ (Array.getElem?_eq_some_iff.1 ZxW2.out).1).trans ZxW2.out)
                have ZmW3 := Lib.hid ((hbW3.block _ (Array.getElem?_eq_some_iff.1 ZmW2.out).1).trans ZmW2.out)
                have zdW3 : W3.heap[W2.heap.size]? = some (.cells #[.int .i64 m.day] 3 (0, 0)) := by rw [← hW3]; exact alloc_at (by simp [gw_size])
                have ZdW3 := Lib.hid zdW3; clear zdW3
                have HBW3 := Lib.hid (thru hbW3 HBW2.out)
                have SBW3 := Lib.hid hbW3; clear hbW3
                have HWW3 := Lib.hid hW3; clear hW3
                rw [HWW3.out]
                have S3 := Lib.hid (S2.out.trans (SBW3.out.mono S2.out.size))
                have ed0W3 : W3.cell? ⟨W2.heap.size, 0, none⟩ = some (.int .i64 m.day) := cell_of_block ZdW3.out 0 (by simp)
                have ldW3 := (Array.getElem?_eq_some_iff.1 ZdW3.out).1
                have GR := GRX.out _ _ _ S3.out ldW3 ed0W3
                clear ed0W3
                obtain ⟨gb, hgb⟩ : ∃ gb, greatB C x k 1 (fun _ => m.day) = gb := ⟨_, rfl⟩
                rw [hgb] at GR
                clear hgb
                unfold Cont.val at GR
                have GR2 := Lib.hid GR; clear GR
                cases gb with
                | true =>
                  refine (Calls.grown (GR2.out)).mono ?_
                  rintro e w1 ⟨rfl, z4, rfl⟩
                  go_wp2_with fail
                  refine (Calls.gw_of (alive_any _)).mono ?_
                  rintro e w1 ⟨rfl, z5, rfl⟩
                  go_wp2_with fail
                  go_ret
                  exact ⟨rfl, HBW3.out.gw z5⟩
                | false =>
                  refine (Calls.grown (GR2.out)).mono ?_
                  rintro e w1 ⟨rfl, z4, rfl⟩
                  go_wp2_with fail
                  go_roundw
                  case rel => exact ⟨i + 1, by omega, by go_num, Lib.hid (S3.out.trans ((below_gw W3 z4).mono S3.out.size))⟩
                  case measure => simp [intOf]; omega
            · obtain rfl : n = i := by omega
              have ec0wr : wr.cell? ⟨w.heap.size, 0, none⟩ = some (.int .i64 C.days) := cell_of_block Y0.out 0 (by simp)
              have ec1wr : wr.cell? ⟨w.heap.size, 1, none⟩ = some (.slice C.aA C.nA C.cA) := cell_of_block Y0.out 1 (by simp)
              have ec2wr : wr.cell? ⟨w.heap.size, 2, none⟩ = some (.slice C.aW C.nW C.cW) := cell_of_block Y0.out 2 (by simp)
              have lcwr := (Array.getElem?_eq_some_iff.1 Y0.out).1
              have ex0wr : wr.cell? ⟨w.heap.size + 1, 0, none⟩ = some (.int .i64 x.day) := cell_of_block Y1.out 0 (by simp)
              have ex1wr : wr.cell? ⟨w.heap.size + 1, 1, none⟩ = some (.int .i64 x.alo) := cell_of_block Y1.out 1 (by simp)
              have ex2wr : wr.cell? ⟨w.heap.size + 1, 2, none⟩ = some (.int .i64 x.ahi) := cell_of_block Y1.out 2 (by simp)
              have ex3wr : wr.cell? ⟨w.heap.size + 1, 3, none⟩ = some (.int .i64 x.wlo) := cell_of_block Y1.out 3 (by simp)
              have ex4wr : wr.cell? ⟨w.heap.size + 1, 4, none⟩ = some (.int .i64 x.whi) := cell_of_block Y1.out 4 (by simp)
              have lxwr := (Array.getElem?_eq_some_iff.1 Y1.out).1
              go_wp2_with fail
              refine (Calls.grown (FOL'.out _ (SB.out))).mono ?_
              rintro e w1 ⟨rfl, z4, rfl⟩
              go_upto_region 10 with (fail)
              obtain ⟨W2, hW2⟩ : ∃ W2, ((gw wr z4)).alloc (.cells #[.int .i64 rc.day, .int .i64 rc.alo, .int .i64 rc.ahi, .int .i64 rc.wlo, .int .i64 rc.whi] 28) = W2 := ⟨_, rfl⟩
              have hbW2 : Below wr.heap.size wr W2 := by rw [← hW2]; exact (below_gw wr z4).alloc (by simp [gw_size]) _
              have ZcW2 := Lib.hid ((hbW2.block _ (Array.getElem?_eq_some_iff.1 Y0.out).1).trans Y0.out)
              have ZxW2 := Lib.hid ((hbW2.block _ (Array.getElem?_eq_some_iff.1 Y1.out).1).trans Y1.out)
              have zeW2 : W2.heap[wr.heap.size + z4.bs.size]? = some (.cells #[.int .i64 rc.day, .int .i64 rc.alo, .int .i64 rc.ahi, .int .i64 rc.wlo, .int .i64 rc.whi] 28 (0, 0)) := by rw [← hW2]; exact alloc_at (by simp [gw_size])
              have ZeW2 := Lib.hid zeW2; clear zeW2
              have HBW2 := Lib.hid (thru hbW2 HBw.out)
              have SBW2 := Lib.hid hbW2; clear hbW2
              have HWW2 := Lib.hid hW2; clear hW2
              rw [HWW2.out]
              clear ec0wr ec1wr ec2wr ex0wr ex1wr ex2wr ex3wr ex4wr
              have S2 := Lib.hid (SB.out.trans (SBW2.out.mono SB.out.size))
              have ec0W2 : W2.cell? ⟨w.heap.size, 0, none⟩ = some (.int .i64 C.days) := cell_of_block ZcW2.out 0 (by simp)
              have ec1W2 : W2.cell? ⟨w.heap.size, 1, none⟩ = some (.slice C.aA C.nA C.cA) := cell_of_block ZcW2.out 1 (by simp)
              have ec2W2 : W2.cell? ⟨w.heap.size, 2, none⟩ = some (.slice C.aW C.nW C.cW) := cell_of_block ZcW2.out 2 (by simp)
              have lcW2 := (Array.getElem?_eq_some_iff.1 ZcW2.out).1
              have ex0W2 : W2.cell? ⟨w.heap.size + 1, 0, none⟩ = some (.int .i64 x.day) := cell_of_block ZxW2.out 0 (by simp)
              have ex1W2 : W2.cell? ⟨w.heap.size + 1, 1, none⟩ = some (.int .i64 x.alo) := cell_of_block ZxW2.out 1 (by simp)
              have ex2W2 : W2.cell? ⟨w.heap.size + 1, 2, none⟩ = some (.int .i64 x.ahi) := cell_of_block ZxW2.out 2 (by simp)
              have ex3W2 : W2.cell? ⟨w.heap.size + 1, 3, none⟩ = some (.int .i64 x.wlo) := cell_of_block ZxW2.out 3 (by simp)
              have ex4W2 : W2.cell? ⟨w.heap.size + 1, 4, none⟩ = some (.int .i64 x.whi) := cell_of_block ZxW2.out 4 (by simp)
              have lxW2 := (Array.getElem?_eq_some_iff.1 ZxW2.out).1
              go_wp2_with fail
              refine (Calls.grown (RFO'.out _ (S2.out))).mono ?_
              rintro e w1 ⟨rfl, z5, rfl⟩
              go_upto_region 11 with (fail)
              obtain ⟨W3, hW3⟩ : ∃ W3, ((gw W2 z5)).alloc (.cells #[.int .i64 rc.day, .int .i64 rc.alo, .int .i64 rc.ahi, .int .i64 rc.wlo, .int .i64 rc.whi] 28) = W3 := ⟨_, rfl⟩
              have hbW3 : Below W2.heap.size W2 W3 := by rw [← hW3]; exact (below_gw W2 z5).alloc (by simp [gw_size]) _
              have ZcW3 := Lib.hid ((hbW3.block _ (Array.getElem?_eq_some_iff.1 ZcW2.out).1).trans ZcW2.out)
              have ZxW3 := Lib.hid ((hbW3.block _ (Array.getElem?_eq_some_iff.1 ZxW2.out).1).trans ZxW2.out)
              have ZeW3 := Lib.hid ((hbW3.block _ (Array.getElem?_eq_some_iff.1 ZeW2.out).1).trans ZeW2.out)
              have zgW3 : W3.heap[W2.heap.size + z5.bs.size]? = some (.cells #[.int .i64 rc.day, .int .i64 rc.alo, .int .i64 rc.ahi, .int .i64 rc.wlo, .int .i64 rc.whi] 28 (0, 0)) := by rw [← hW3]; exact alloc_at (by simp [gw_size])
              have ZgW3 := Lib.hid zgW3; clear zgW3
              have HBW3 := Lib.hid (thru hbW3 HBW2.out)
              have SBW3 := Lib.hid hbW3; clear hbW3
              have HWW3 := Lib.hid hW3; clear hW3
              rw [HWW3.out]
              clear ec0W2 ec1W2 ec2W2 ex0W2 ex1W2 ex2W2 ex3W2 ex4W2
              have S3 := Lib.hid (S2.out.trans (SBW3.out.mono S2.out.size))
              have ec0W3 : W3.cell? ⟨w.heap.size, 0, none⟩ = some (.int .i64 C.days) := cell_of_block ZcW3.out 0 (by simp)
              have ec1W3 : W3.cell? ⟨w.heap.size, 1, none⟩ = some (.slice C.aA C.nA C.cA) := cell_of_block ZcW3.out 1 (by simp)
              have ec2W3 : W3.cell? ⟨w.heap.size, 2, none⟩ = some (.slice C.aW C.nW C.cW) := cell_of_block ZcW3.out 2 (by simp)
              have lcW3 := (Array.getElem?_eq_some_iff.1 ZcW3.out).1
              have ex0W3 : W3.cell? ⟨w.heap.size + 1, 0, none⟩ = some (.int .i64 x.day) := cell_of_block ZxW3.out 0 (by simp)
              have ex1W3 : W3.cell? ⟨w.heap.size + 1, 1, none⟩ = some (.int .i64 x.alo) := cell_of_block ZxW3.out 1 (by simp)
              have ex2W3 : W3.cell? ⟨w.heap.size + 1, 2, none⟩ = some (.int .i64 x.ahi) := cell_of_block ZxW3.out 2 (by simp)
              have ex3W3 : W3.cell? ⟨w.heap.size + 1, 3, none⟩ = some (.int .i64 x.wlo) := cell_of_block ZxW3.out 3 (by simp)
              have ex4W3 : W3.cell? ⟨w.heap.size + 1, 4, none⟩ = some (.int .i64 x.whi) := cell_of_block ZxW3.out 4 (by simp)
              have lxW3 := (Array.getElem?_eq_some_iff.1 ZxW3.out).1
              go_wp2_with fail
              have FL := Lib.hid (FLX.out _ S3.out)
              unfold Cont.val at FL
              refine FL.out.mono ?_
              rintro e w5 ⟨v, rfl, hown, hb5⟩
              obtain ⟨av, cv, rfl, hints⟩ := ints_of_own hown
              have HI := Lib.hid hints; clear hints hown
              have HB5 := Lib.hid hb5; clear hb5
              clear ec0W3 ec1W3 ec2W3 ex0W3 ex1W3 ex2W3 ex3W3 ex4W3
              have SBw5 := Lib.hid (HB5.out)
              have Zcw5 := Lib.hid ((SBw5.out.block _ (Array.getElem?_eq_some_iff.1 ZcW3.out).1).trans ZcW3.out)
              have Zxw5 := Lib.hid ((SBw5.out.block _ (Array.getElem?_eq_some_iff.1 ZxW3.out).1).trans ZxW3.out)
              have Zew5 := Lib.hid ((SBw5.out.block _ (Array.getElem?_eq_some_iff.1 ZeW3.out).1).trans ZeW3.out)
              have Zgw5 := Lib.hid ((SBw5.out.block _ (Array.getElem?_eq_some_iff.1 ZgW3.out).1).trans ZgW3.out)
              have HBw5 := Lib.hid (thru SBw5.out HBW3.out)
              have Sw5 := Lib.hid (S3.out.trans (SBw5.out.mono S3.out.size))
              have ec0w5 : w5.cell? ⟨w.heap.size, 0, none⟩ = some (.int .i64 C.days) := cell_of_block Zcw5.out 0 (by simp)
              have ec1w5 : w5.cell? ⟨w.heap.size, 1, none⟩ = some (.slice C.aA C.nA C.cA) := cell_of_block Zcw5.out 1 (by simp)
              have ec2w5 : w5.cell? ⟨w.heap.size, 2, none⟩ = some (.slice C.aW C.nW C.cW) := cell_of_block Zcw5.out 2 (by simp)
              have lcw5 := (Array.getElem?_eq_some_iff.1 Zcw5.out).1
              have ex0w5 : w5.cell? ⟨w.heap.size + 1, 0, none⟩ = some (.int .i64 x.day) := cell_of_block Zxw5.out 0 (by simp)
              have ex1w5 : w5.cell? ⟨w.heap.size + 1, 1, none⟩ = some (.int .i64 x.alo) := cell_of_block Zxw5.out 1 (by simp)
              have ex2w5 : w5.cell? ⟨w.heap.size + 1, 2, none⟩ = some (.int .i64 x.ahi) := cell_of_block Zxw5.out 2 (by simp)
              have ex3w5 : w5.cell? ⟨w.heap.size + 1, 3, none⟩ = some (.int .i64 x.wlo) := cell_of_block Zxw5.out 3 (by simp)
              have ex4w5 : w5.cell? ⟨w.heap.size + 1, 4, none⟩ = some (.int .i64 x.whi) := cell_of_block Zxw5.out 4 (by simp)
              have lxw5 := (Array.getElem?_eq_some_iff.1 Zxw5.out).1
              go_wp2_with fail
              have FL2 := Lib.hid (RFX.out _ Sw5.out)
              unfold Cont.val at FL2
              refine FL2.out.mono ?_
              rintro e w6 ⟨a2, cap2, rfl, hints2, hb6⟩
              have HI2 := Lib.hid hints2; clear hints2
              have HB6 := Lib.hid hb6; clear hb6
              clear ec0w5 ec1w5 ec2w5 ex0w5 ex1w5 ex2w5 ex3w5 ex4w5
              have SBw6 := Lib.hid (HB6.out)
              have Zcw6 := Lib.hid ((SBw6.out.block _ (Array.getElem?_eq_some_iff.1 Zcw5.out).1).trans Zcw5.out)
              have Zxw6 := Lib.hid ((SBw6.out.block _ (Array.getElem?_eq_some_iff.1 Zxw5.out).1).trans Zxw5.out)
              have Zew6 := Lib.hid ((SBw6.out.block _ (Array.getElem?_eq_some_iff.1 Zew5.out).1).trans Zew5.out)
              have Zgw6 := Lib.hid ((SBw6.out.block _ (Array.getElem?_eq_some_iff.1 Zgw5.out).1).trans Zgw5.out)
              have HBw6 := Lib.hid (thru SBw6.out HBw5.out)
              have Sw6 := Lib.hid (Sw5.out.trans (SBw6.out.mono Sw5.out.size))
              have ee0w6 : w6.cell? ⟨wr.heap.size + z4.bs.size, 0, none⟩ = some (.int .i64 rc.day) := cell_of_block Zew6.out 0 (by simp)
              have ee1w6 : w6.cell? ⟨wr.heap.size + z4.bs.size, 1, none⟩ = some (.int .i64 rc.alo) := cell_of_block Zew6.out 1 (by simp)
              have ee2w6 : w6.cell? ⟨wr.heap.size + z4.bs.size, 2, none⟩ = some (.int .i64 rc.ahi) := cell_of_block Zew6.out 2 (by simp)
              have ee3w6 : w6.cell? ⟨wr.heap.size + z4.bs.size, 3, none⟩ = some (.int .i64 rc.wlo) := cell_of_block Zew6.out 3 (by simp)
              have ee4w6 : w6.cell? ⟨wr.heap.size + z4.bs.size, 4, none⟩ = some (.int .i64 rc.whi) := cell_of_block Zew6.out 4 (by simp)
              have lew6 := (Array.getElem?_eq_some_iff.1 Zew6.out).1
              have eg0w6 : w6.cell? ⟨W2.heap.size + z5.bs.size, 0, none⟩ = some (.int .i64 rc.day) := cell_of_block Zgw6.out 0 (by simp)
              have eg1w6 : w6.cell? ⟨W2.heap.size + z5.bs.size, 1, none⟩ = some (.int .i64 rc.alo) := cell_of_block Zgw6.out 1 (by simp)
              have eg2w6 : w6.cell? ⟨W2.heap.size + z5.bs.size, 2, none⟩ = some (.int .i64 rc.ahi) := cell_of_block Zgw6.out 2 (by simp)
              have eg3w6 : w6.cell? ⟨W2.heap.size + z5.bs.size, 3, none⟩ = some (.int .i64 rc.wlo) := cell_of_block Zgw6.out 3 (by simp)
              have eg4w6 : w6.cell? ⟨W2.heap.size + z5.bs.size, 4, none⟩ = some (.int .i64 rc.whi) := cell_of_block Zgw6.out 4 (by simp)
              have lgw6 := (Array.getElem?_eq_some_iff.1 Zgw6.out).1
              have HIB := Lib.hid (HI.out.below HB6.out)
              have N9 : flN C x day ≤ 9223372036854775807 := by unfold flN; split; exact HLN.out.na; omega
              generalize flN C x day = N at *
              have INT := Lib.hid (sameInts_t av a2 N cv cap2 _ w6 N9 HIB.out HI2.out)
              generalize flE C x day = E at *
              go_wp2_with fail
              refine (Calls.grown (INT.out)).mono ?_
              rintro e w1 ⟨rfl, z6, rfl⟩
              go_wp2_with fail
              refine (Calls.gw_of (alive_any _)).mono ?_
              rintro e w1 ⟨rfl, z7, rfl⟩
              go_wp2_with fail
              go_ret
              exact ⟨rfl, HBw6.out.gw z7⟩
      · by_cases n3 : n ≤ 64
        · go_enter Try.func12, Try.ntmps12
          go_wp2_with fail
          rw [HWc.out]
          go_wp2_with fail
          refine (Calls.grown (GR'.out)).mono ?_
          rintro e w1 ⟨rfl, z1, rfl⟩
          go_wp2_with fail
          go_loopw [47] (fun t wr => ∃ i : Nat, i ≤ n ∧ t = .int .i64 i ∧ Hid (Below W1.heap.size W1 wr)) (fun t _ => n - (intOf t).toNat)
          case atStart => exact ⟨0, Nat.zero_le _, rfl, Lib.hid (below_gw W1 _)⟩
          case round =>
            obtain ⟨i, hi, rfl, SB⟩ := hrel
            have HBw := Lib.hid (thru SB.out HBc.out)
            have Y0 := Lib.hid ((SB.out.block _ lc0).trans Zc0.out)
            have Y1 := Lib.hid ((SB.out.block _ lc1).trans Zc1.out)
            clear c00 c01 c02 c10 c11 c12 c13 c14
            by_cases hlt : i < n
            · rcases HRL.out with hz | ⟨b, off, rfl, lb, hc⟩
              · omega
              · obtain ⟨m0, m1, m2, m3, m4⟩ := hc i hlt
                have lbr := Nat.lt_of_lt_of_le lb SB.out.size
                have q0 := below_cell SB.out m0
                have q1 := below_cell SB.out m1
                have q2 := below_cell SB.out m2
                have q3 := below_cell SB.out m3
                have q4 := below_cell SB.out m4
                clear hc m0 m1 m2 m3 m4
                obtain ⟨m, hm⟩ : ∃ m, M i = m := ⟨_, rfl⟩
                rw [hm] at q0 q1 q2 q3 q4
                clear hm
                go_upto_region 6 with (fail)
                obtain ⟨W2, hW2⟩ : ∃ W2, ((wr)).alloc (.cells #[.int .i64 m.day, .int .i64 m.vlo, .int .i64 m.vhi, .int .i64 m.slo, .int .i64 m.shi] 44) = W2 := ⟨_, rfl⟩
                have hbW2 : Below wr.heap.size wr W2 := by rw [← hW2]; exact (Below.refl _ wr).alloc (by simp [gw_size]) _
                have ZcW2 := Lib.hid ((hbW2.block _ (Array.getElem?_eq_some_iff.1 Y0.out).1).trans Y0.out)
                have ZxW2 := Lib.hid ((hbW2.block _ (Array.getElem?_eq_some_iff.1 Y1.out).1).trans Y1.out)
                have zmW2 : W2.heap[wr.heap.size]? = some (.cells #[.int .i64 m.day, .int .i64 m.vlo, .int .i64 m.vhi, .int .i64 m.slo, .int .i64 m.shi] 44 (0, 0)) := by rw [← hW2]; exact alloc_at (by simp [gw_size])
                have ZmW2 := Lib.hid zmW2; clear zmW2
                have HBW2 := Lib.hid (thru hbW2 HBw.out)
                have SBW2 := Lib.hid hbW2; clear hbW2
                have HWW2 := Lib.hid hW2; clear hW2
                rw [HWW2.out]
                have S2 := Lib.hid (SB.out.trans (SBW2.out.mono SB.out.size))
                have ec0W2 : W2.cell? ⟨w.heap.size, 0, none⟩ = some (.int .i64 C.days) := cell_of_block ZcW2.out 0 (by simp)
                have ec1W2 : W2.cell? ⟨w.heap.size, 1, none⟩ = some (.slice C.aA C.nA C.cA) := cell_of_block ZcW2.out 1 (by simp)
                have ec2W2 : W2.cell? ⟨w.heap.size, 2, none⟩ = some (.slice C.aW C.nW C.cW) := cell_of_block ZcW2.out 2 (by simp)
                have lcW2 := (Array.getElem?_eq_some_iff.1 ZcW2.out).1
                have ex0W2 : W2.cell? ⟨w.heap.size + 1, 0, none⟩ = some (.int .i64 x.day) := cell_of_block ZxW2.out 0 (by simp)
                have ex1W2 : W2.cell? ⟨w.heap.size + 1, 1, none⟩ = some (.int .i64 x.alo) := cell_of_block ZxW2.out 1 (by simp)
                have ex2W2 : W2.cell? ⟨w.heap.size + 1, 2, none⟩ = some (.int .i64 x.ahi) := cell_of_block ZxW2.out 2 (by simp)
                have ex3W2 : W2.cell? ⟨w.heap.size + 1, 3, none⟩ = some (.int .i64 x.wlo) := cell_of_block ZxW2.out 3 (by simp)
                have ex4W2 : W2.cell? ⟨w.heap.size + 1, 4, none⟩ = some (.int .i64 x.whi) := cell_of_block ZxW2.out 4 (by simp)
                have lxW2 := (Array.getElem?_eq_some_iff.1 ZxW2.out).1
                have em0W2 : W2.cell? ⟨wr.heap.size, 0, none⟩ = some (.int .i64 m.day) := cell_of_block ZmW2.out 0 (by simp)
                have em1W2 : W2.cell? ⟨wr.heap.size, 1, none⟩ = some (.int .i64 m.vlo) := cell_of_block ZmW2.out 1 (by simp)
                have em2W2 : W2.cell? ⟨wr.heap.size, 2, none⟩ = some (.int .i64 m.vhi) := cell_of_block ZmW2.out 2 (by simp)
                have em3W2 : W2.cell? ⟨wr.heap.size, 3, none⟩ = some (.int .i64 m.slo) := cell_of_block ZmW2.out 3 (by simp)
                have em4W2 : W2.cell? ⟨wr.heap.size, 4, none⟩ = some (.int .i64 m.shi) := cell_of_block ZmW2.out 4 (by simp)
                have lmW2 := (Array.getElem?_eq_some_iff.1 ZmW2.out).1
                go_wp2_with fail
                obtain ⟨W3, hW3⟩ : ∃ W3, ((W2)).alloc (.cells #[.int .i64 m.day] 3) = W3 := ⟨_, rfl⟩
                have hbW3 : Below W2.heap.size W2 W3 := by rw [← hW3]; exact (Below.refl _ W2).alloc (by simp [gw_size]) _
                have ZcW3 := Lib.hid ((hbW3.block _ (Array.getElem?_eq_some_iff.1 ZcW2.out).1).trans ZcW2.out)
                have ZxW3 := Lib.hid ((hbW3.block _ (Array.getElem?_eq_some_iff.1 ZxW2.out).1).trans ZxW2.out)
                have ZmW3 := Lib.hid ((hbW3.block _ (Array.getElem?_eq_some_iff.1 ZmW2.out).1).trans ZmW2.out)
                have zdW3 : W3.heap[W2.heap.size]? = some (.cells #[.int .i64 m.day] 3 (0, 0)) := by rw [← hW3]; exact alloc_at (by simp [gw_size])
                have ZdW3 := Lib.hid zdW3; clear zdW3
                have HBW3 := Lib.hid (thru hbW3 HBW2.out)
                have SBW3 := Lib.hid hbW3; clear hbW3
                have HWW3 := Lib.hid hW3; clear hW3
                rw [HWW3.out]
                have S3 := Lib.hid (S2.out.trans (SBW3.out.mono S2.out.size))
                have ed0W3 : W3.cell? ⟨W2.heap.size, 0, none⟩ = some (.int .i64 m.day) := cell_of_block ZdW3.out 0 (by simp)
                have ldW3 := (Array.getElem?_eq_some_iff.1 ZdW3.out).1
                have GR := GRX.out _ _ _ S3.out ldW3 ed0W3
                clear ed0W3
                obtain ⟨gb, hgb⟩ : ∃ gb, greatB C x k 1 (fun _ => m.day) = gb := ⟨_, rfl⟩
                rw [hgb] at GR
                clear hgb
                unfold Cont.val at GR
                have GR2 := Lib.hid GR; clear GR
                cases gb with
                | true =>
                  refine (Calls.grown (GR2.out)).mono ?_
                  rintro e w1 ⟨rfl, z4, rfl⟩
                  go_wp2_with fail
                  refine (Calls.gw_of (alive_any _)).mono ?_
                  rintro e w1 ⟨rfl, z5, rfl⟩
                  go_wp2_with fail
                  go_ret
                  exact ⟨rfl, HBW3.out.gw z5⟩
                | false =>
                  refine (Calls.grown (GR2.out)).mono ?_
                  rintro e w1 ⟨rfl, z4, rfl⟩
                  go_wp2_with fail
                  go_roundw
                  case rel => exact ⟨i + 1, by omega, by go_num, Lib.hid (S3.out.trans ((below_gw W3 z4).mono S3.out.size))⟩
                  case measure => simp [intOf]; omega
            · obtain rfl : n = i := by omega
              have ec0wr : wr.cell? ⟨w.heap.size, 0, none⟩ = some (.int .i64 C.days) := cell_of_block Y0.out 0 (by simp)
              have ec1wr : wr.cell? ⟨w.heap.size, 1, none⟩ = some (.slice C.aA C.nA C.cA) := cell_of_block Y0.out 1 (by simp)
              have ec2wr : wr.cell? ⟨w.heap.size, 2, none⟩ = some (.slice C.aW C.nW C.cW) := cell_of_block Y0.out 2 (by simp)
              have lcwr := (Array.getElem?_eq_some_iff.1 Y0.out).1
              have ex0wr : wr.cell? ⟨w.heap.size + 1, 0, none⟩ = some (.int .i64 x.day) := cell_of_block Y1.out 0 (by simp)
              have ex1wr : wr.cell? ⟨w.heap.size + 1, 1, none⟩ = some (.int .i64 x.alo) := cell_of_block Y1.out 1 (by simp)
              have ex2wr : wr.cell? ⟨w.heap.size + 1, 2, none⟩ = some (.int .i64 x.ahi) := cell_of_block Y1.out 2 (by simp)
              have ex3wr : wr.cell? ⟨w.heap.size + 1, 3, none⟩ = some (.int .i64 x.wlo) := cell_of_block Y1.out 3 (by simp)
              have ex4wr : wr.cell? ⟨w.heap.size + 1, 4, none⟩ = some (.int .i64 x.whi) := cell_of_block Y1.out 4 (by simp)
              have lxwr := (Array.getElem?_eq_some_iff.1 Y1.out).1
              go_wp2_with fail
              refine (Calls.grown (FOL'.out _ (SB.out))).mono ?_
              rintro e w1 ⟨rfl, z4, rfl⟩
              go_upto_region 10 with (fail)
              obtain ⟨W2, hW2⟩ : ∃ W2, ((gw wr z4)).alloc (.cells #[.int .i64 rc.day, .int .i64 rc.alo, .int .i64 rc.ahi, .int .i64 rc.wlo, .int .i64 rc.whi] 28) = W2 := ⟨_, rfl⟩
              have hbW2 : Below wr.heap.size wr W2 := by rw [← hW2]; exact (below_gw wr z4).alloc (by simp [gw_size]) _
              have ZcW2 := Lib.hid ((hbW2.block _ (Array.getElem?_eq_some_iff.1 Y0.out).1).trans Y0.out)
              have ZxW2 := Lib.hid ((hbW2.block _ (Array.getElem?_eq_some_iff.1 Y1.out).1).trans Y1.out)
              have zeW2 : W2.heap[wr.heap.size + z4.bs.size]? = some (.cells #[.int .i64 rc.day, .int .i64 rc.alo, .int .i64 rc.ahi, .int .i64 rc.wlo, .int .i64 rc.whi] 28 (0, 0)) := by rw [← hW2]; exact alloc_at (by simp [gw_size])
              have ZeW2 := Lib.hid zeW2; clear zeW2
              have HBW2 := Lib.hid (thru hbW2 HBw.out)
              have SBW2 := Lib.hid hbW2; clear hbW2
              have HWW2 := Lib.hid hW2; clear hW2
              rw [HWW2.out]
              clear ec0wr ec1wr ec2wr ex0wr ex1wr ex2wr ex3wr ex4wr
              have S2 := Lib.hid (SB.out.trans (SBW2.out.mono SB.out.size))
              have ec0W2 : W2.cell? ⟨w.heap.size, 0, none⟩ = some (.int .i64 C.days) := cell_of_block ZcW2.out 0 (by simp)
              have ec1W2 : W2.cell? ⟨w.heap.size, 1, none⟩ = some (.slice C.aA C.nA C.cA) := cell_of_block ZcW2.out 1 (by simp)
              have ec2W2 : W2.cell? ⟨w.heap.size, 2, none⟩ = some (.slice C.aW C.nW C.cW) := cell_of_block ZcW2.out 2 (by simp)
              have lcW2 := (Array.getElem?_eq_some_iff.1 ZcW2.out).1
              have ex0W2 : W2.cell? ⟨w.heap.size + 1, 0, none⟩ = some (.int .i64 x.day) := cell_of_block ZxW2.out 0 (by simp)
              have ex1W2 : W2.cell? ⟨w.heap.size + 1, 1, none⟩ = some (.int .i64 x.alo) := cell_of_block ZxW2.out 1 (by simp)
              have ex2W2 : W2.cell? ⟨w.heap.size + 1, 2, none⟩ = some (.int .i64 x.ahi) := cell_of_block ZxW2.out 2 (by simp)
              have ex3W2 : W2.cell? ⟨w.heap.size + 1, 3, none⟩ = some (.int .i64 x.wlo) := cell_of_block ZxW2.out 3 (by simp)
              have ex4W2 : W2.cell? ⟨w.heap.size + 1, 4, none⟩ = some (.int .i64 x.whi) := cell_of_block ZxW2.out 4 (by simp)
              have lxW2 := (Array.getElem?_eq_some_iff.1 ZxW2.out).1
              go_wp2_with fail
              refine (Calls.grown (RFO'.out _ (S2.out))).mono ?_
              rintro e w1 ⟨rfl, z5, rfl⟩
              go_upto_region 11 with (fail)
              obtain ⟨W3, hW3⟩ : ∃ W3, ((gw W2 z5)).alloc (.cells #[.int .i64 rc.day, .int .i64 rc.alo, .int .i64 rc.ahi, .int .i64 rc.wlo, .int .i64 rc.whi] 28) = W3 := ⟨_, rfl⟩
              have hbW3 : Below W2.heap.size W2 W3 := by rw [← hW3]; exact (below_gw W2 z5).alloc (by simp [gw_size]) _
              have ZcW3 := Lib.hid ((hbW3.block _ (Array.getElem?_eq_some_iff.1 ZcW2.out).1).trans ZcW2.out)
              have ZxW3 := Lib.hid ((hbW3.block _ (Array.getElem?_eq_some_iff.1 ZxW2.out).1).trans ZxW2.out)
              have ZeW3 := Lib.hid ((hbW3.block _ (Array.getElem?_eq_some_iff.1 ZeW2.out).1).trans ZeW2.out)
              have zgW3 : W3.heap[W2.heap.size + z5.bs.size]? = some (.cells #[.int .i64 rc.day, .int .i64 rc.alo, .int .i64 rc.ahi, .int .i64 rc.wlo, .int .i64 rc.whi] 28 (0, 0)) := by rw [← hW3]; exact alloc_at (by simp [gw_size])
              have ZgW3 := Lib.hid zgW3; clear zgW3
              have HBW3 := Lib.hid (thru hbW3 HBW2.out)
              have SBW3 := Lib.hid hbW3; clear hbW3
              have HWW3 := Lib.hid hW3; clear hW3
              rw [HWW3.out]
              clear ec0W2 ec1W2 ec2W2 ex0W2 ex1W2 ex2W2 ex3W2 ex4W2
              have S3 := Lib.hid (S2.out.trans (SBW3.out.mono S2.out.size))
              have ec0W3 : W3.cell? ⟨w.heap.size, 0, none⟩ = some (.int .i64 C.days) := cell_of_block ZcW3.out 0 (by simp)
              have ec1W3 : W3.cell? ⟨w.heap.size, 1, none⟩ = some (.slice C.aA C.nA C.cA) := cell_of_block ZcW3.out 1 (by simp)
              have ec2W3 : W3.cell? ⟨w.heap.size, 2, none⟩ = some (.slice C.aW C.nW C.cW) := cell_of_block ZcW3.out 2 (by simp)
              have lcW3 := (Array.getElem?_eq_some_iff.1 ZcW3.out).1
              have ex0W3 : W3.cell? ⟨w.heap.size + 1, 0, none⟩ = some (.int .i64 x.day) := cell_of_block ZxW3.out 0 (by simp)
              have ex1W3 : W3.cell? ⟨w.heap.size + 1, 1, none⟩ = some (.int .i64 x.alo) := cell_of_block ZxW3.out 1 (by simp)
              have ex2W3 : W3.cell? ⟨w.heap.size + 1, 2, none⟩ = some (.int .i64 x.ahi) := cell_of_block ZxW3.out 2 (by simp)
              have ex3W3 : W3.cell? ⟨w.heap.size + 1, 3, none⟩ = some (.int .i64 x.wlo) := cell_of_block ZxW3.out 3 (by simp)
              have ex4W3 : W3.cell? ⟨w.heap.size + 1, 4, none⟩ = some (.int .i64 x.whi) := cell_of_block ZxW3.out 4 (by simp)
              have lxW3 := (Array.getElem?_eq_some_iff.1 ZxW3.out).1
              go_wp2_with fail
              have FL := Lib.hid (FLX.out _ S3.out)
              unfold Cont.val at FL
              refine FL.out.mono ?_
              rintro e w5 ⟨v, rfl, hown, hb5⟩
              obtain ⟨av, cv, rfl, hints⟩ := ints_of_own hown
              have HI := Lib.hid hints; clear hints hown
              have HB5 := Lib.hid hb5; clear hb5
              clear ec0W3 ec1W3 ec2W3 ex0W3 ex1W3 ex2W3 ex3W3 ex4W3
              have SBw5 := Lib.hid (HB5.out)
              have Zcw5 := Lib.hid ((SBw5.out.block _ (Array.getElem?_eq_some_iff.1 ZcW3.out).1).trans ZcW3.out)
              have Zxw5 := Lib.hid ((SBw5.out.block _ (Array.getElem?_eq_some_iff.1 ZxW3.out).1).trans ZxW3.out)
              have Zew5 := Lib.hid ((SBw5.out.block _ (Array.getElem?_eq_some_iff.1 ZeW3.out).1).trans ZeW3.out)
              have Zgw5 := Lib.hid ((SBw5.out.block _ (Array.getElem?_eq_some_iff.1 ZgW3.out).1).trans ZgW3.out)
              have HBw5 := Lib.hid (thru SBw5.out HBW3.out)
              have Sw5 := Lib.hid (S3.out.trans (SBw5.out.mono S3.out.size))
              have ec0w5 : w5.cell? ⟨w.heap.size, 0, none⟩ = some (.int .i64 C.days) := cell_of_block Zcw5.out 0 (by simp)
              have ec1w5 : w5.cell? ⟨w.heap.size, 1, none⟩ = some (.slice C.aA C.nA C.cA) := cell_of_block Zcw5.out 1 (by simp)
              have ec2w5 : w5.cell? ⟨w.heap.size, 2, none⟩ = some (.slice C.aW C.nW C.cW) := cell_of_block Zcw5.out 2 (by simp)
              have lcw5 := (Array.getElem?_eq_some_iff.1 Zcw5.out).1
              have ex0w5 : w5.cell? ⟨w.heap.size + 1, 0, none⟩ = some (.int .i64 x.day) := cell_of_block Zxw5.out 0 (by simp)
              have ex1w5 : w5.cell? ⟨w.heap.size + 1, 1, none⟩ = some (.int .i64 x.alo) := cell_of_block Zxw5.out 1 (by simp)
              have ex2w5 : w5.cell? ⟨w.heap.size + 1, 2, none⟩ = some (.int .i64 x.ahi) := cell_of_block Zxw5.out 2 (by simp)
              have ex3w5 : w5.cell? ⟨w.heap.size + 1, 3, none⟩ = some (.int .i64 x.wlo) := cell_of_block Zxw5.out 3 (by simp)
              have ex4w5 : w5.cell? ⟨w.heap.size + 1, 4, none⟩ = some (.int .i64 x.whi) := cell_of_block Zxw5.out 4 (by simp)
              have lxw5 := (Array.getElem?_eq_some_iff.1 Zxw5.out).1
              go_wp2_with fail
              have FL2 := Lib.hid (RFX.out _ Sw5.out)
              unfold Cont.val at FL2
              refine FL2.out.mono ?_
              rintro e w6 ⟨a2, cap2, rfl, hints2, hb6⟩
              have HI2 := Lib.hid hints2; clear hints2
              have HB6 := Lib.hid hb6; clear hb6
              clear ec0w5 ec1w5 ec2w5 ex0w5 ex1w5 ex2w5 ex3w5 ex4w5
              have SBw6 := Lib.hid (HB6.out)
              have Zcw6 := Lib.hid ((SBw6.out.block _ (Array.getElem?_eq_some_iff.1 Zcw5.out).1).trans Zcw5.out)
              have Zxw6 := Lib.hid ((SBw6.out.block _ (Array.getElem?_eq_some_iff.1 Zxw5.out).1).trans Zxw5.out)
              have Zew6 := Lib.hid ((SBw6.out.block _ (Array.getElem?_eq_some_iff.1 Zew5.out).1).trans Zew5.out)
              have Zgw6 := Lib.hid ((SBw6.out.block _ (Array.getElem?_eq_some_iff.1 Zgw5.out).1).trans Zgw5.out)
              have HBw6 := Lib.hid (thru SBw6.out HBw5.out)
              have Sw6 := Lib.hid (Sw5.out.trans (SBw6.out.mono Sw5.out.size))
              have ee0w6 : w6.cell? ⟨wr.heap.size + z4.bs.size, 0, none⟩ = some (.int .i64 rc.day) := cell_of_block Zew6.out 0 (by simp)
              have ee1w6 : w6.cell? ⟨wr.heap.size + z4.bs.size, 1, none⟩ = some (.int .i64 rc.alo) := cell_of_block Zew6.out 1 (by simp)
              have ee2w6 : w6.cell? ⟨wr.heap.size + z4.bs.size, 2, none⟩ = some (.int .i64 rc.ahi) := cell_of_block Zew6.out 2 (by simp)
              have ee3w6 : w6.cell? ⟨wr.heap.size + z4.bs.size, 3, none⟩ = some (.int .i64 rc.wlo) := cell_of_block Zew6.out 3 (by simp)
              have ee4w6 : w6.cell? ⟨wr.heap.size + z4.bs.size, 4, none⟩ = some (.int .i64 rc.whi) := cell_of_block Zew6.out 4 (by simp)
              have lew6 := (Array.getElem?_eq_some_iff.1 Zew6.out).1
              have eg0w6 : w6.cell? ⟨W2.heap.size + z5.bs.size, 0, none⟩ = some (.int .i64 rc.day) := cell_of_block Zgw6.out 0 (by simp)
              have eg1w6 : w6.cell? ⟨W2.heap.size + z5.bs.size, 1, none⟩ = some (.int .i64 rc.alo) := cell_of_block Zgw6.out 1 (by simp)
              have eg2w6 : w6.cell? ⟨W2.heap.size + z5.bs.size, 2, none⟩ = some (.int .i64 rc.ahi) := cell_of_block Zgw6.out 2 (by simp)
              have eg3w6 : w6.cell? ⟨W2.heap.size + z5.bs.size, 3, none⟩ = some (.int .i64 rc.wlo) := cell_of_block Zgw6.out 3 (by simp)
              have eg4w6 : w6.cell? ⟨W2.heap.size + z5.bs.size, 4, none⟩ = some (.int .i64 rc.whi) := cell_of_block Zgw6.out 4 (by simp)
              have lgw6 := (Array.getElem?_eq_some_iff.1 Zgw6.out).1
              have HIB := Lib.hid (HI.out.below HB6.out)
              have N9 : flN C x day ≤ 9223372036854775807 := by unfold flN; split; exact HLN.out.na; omega
              generalize flN C x day = N at *
              have INT := Lib.hid (sameInts_t av a2 N cv cap2 _ w6 N9 HIB.out HI2.out)
              generalize flE C x day = E at *
              go_wp2_with fail
              refine (Calls.grown (INT.out)).mono ?_
              rintro e w1 ⟨rfl, z6, rfl⟩
              go_wp2_with fail
              refine (Calls.gw_of (alive_any _)).mono ?_
              rintro e w1 ⟨rfl, z7, rfl⟩
              go_wp2_with fail
              go_ret
              exact ⟨rfl, HBw6.out.gw z7⟩
        · omega
end Go.Proofs.Ytljofnmgddfljaa
