/- HouseOwns walked: it returns true. No conditions beyond each theorem's own. -/
import Derived.Test.YtljofnmgddfljaaFx
import Derived.Test.YtljofnmgddfljaaGa
set_option linter.unusedVariables false
set_option linter.unusedSimpArgs false
set_option linter.unusedSectionVars false
set_option linter.constructorNameAsVariable false
namespace Go.Proofs.Ytljofnmgddfljaa
open Go.RowKit

attribute [local go_sem] gw_cell gw_frozen gw_size

theorem infoInt8 : (Try.prog.info? 3).map (fun i => (i.zero, i.size, i.bytes)) = some (some (.int .i64 0), 1, 8) := by kernel_rfl

set_option maxRecDepth 100000 in
set_option maxHeartbeats 16000000 in
theorem owns_any (C : Clim) (x : Cont) (aS aL : Option Addr) (k cS n cL : Nat) (F G : Nat → Int) (M : Nat → Reg) (day : Int) (w : World) (hC : C.In w) (hl : Lens C k) (hS : SpansAt w aS k F G) (hL : RegsAt w aL n M) (hn : n ≤ 9223372036854775807) :
    Calls Try.prog 13 #[.agg #[.int .i64 C.days, .slice C.aA C.nA C.cA, .slice C.aW C.nW C.cW], x.val, .slice aS k cS, .slice aL n cL, .int .i64 day] w (True1 w) := by
  have hmf : ∀ (fn : Fn) (first cap : Array Value) (w : World), (Instr.makeFunc fn first cap).run Try.prog w = .ok (.func fn first cap) w := fun _ _ _ _ => rfl
  unfold Cont.val
  obtain ⟨W1, hW1⟩ : ∃ W1, ((w.alloc (.cells #[.int .i64 C.days, .slice C.aA C.nA C.cA, .slice C.aW C.nW C.cW] 24)).alloc (.cells #[.int .i64 x.day, .int .i64 x.alo, .int .i64 x.ahi, .int .i64 x.wlo, .int .i64 x.whi] 28)).alloc (.cells #[.int .i64 day] 3) = W1 := ⟨_, rfl⟩
  have hBc : Below w.heap.size w W1 := by rw [← hW1]; exact ((below_alloc _ _).alloc (by simp) _).alloc (by simp <;> omega) _
  have zc0 : W1.heap[w.heap.size]? = some (.cells #[.int .i64 C.days, .slice C.aA C.nA C.cA, .slice C.aW C.nW C.cW] 24 (0, 0)) := by rw [← hW1]; exact alloc_keep (alloc_keep (alloc_at rfl))
  have zc1 : W1.heap[w.heap.size + 1]? = some (.cells #[.int .i64 x.day, .int .i64 x.alo, .int .i64 x.ahi, .int .i64 x.wlo, .int .i64 x.whi] 28 (0, 0)) := by rw [← hW1]; exact alloc_keep (alloc_at (by simp))
  have zc2 : W1.heap[w.heap.size + 1 + 1]? = some (.cells #[.int .i64 day] 3 (0, 0)) := by rw [← hW1]; exact alloc_at (by simp <;> omega)
  have c00 : W1.cell? ⟨w.heap.size, 0, none⟩ = some (.int .i64 C.days) := cell_of_block zc0 0 (by simp)
  have c01 : W1.cell? ⟨w.heap.size, 1, none⟩ = some (.slice C.aA C.nA C.cA) := cell_of_block zc0 1 (by simp)
  have c02 : W1.cell? ⟨w.heap.size, 2, none⟩ = some (.slice C.aW C.nW C.cW) := cell_of_block zc0 2 (by simp)
  have c10 : W1.cell? ⟨w.heap.size + 1, 0, none⟩ = some (.int .i64 x.day) := cell_of_block zc1 0 (by simp)
  have c11 : W1.cell? ⟨w.heap.size + 1, 1, none⟩ = some (.int .i64 x.alo) := cell_of_block zc1 1 (by simp)
  have c12 : W1.cell? ⟨w.heap.size + 1, 2, none⟩ = some (.int .i64 x.ahi) := cell_of_block zc1 2 (by simp)
  have c13 : W1.cell? ⟨w.heap.size + 1, 3, none⟩ = some (.int .i64 x.wlo) := cell_of_block zc1 3 (by simp)
  have c14 : W1.cell? ⟨w.heap.size + 1, 4, none⟩ = some (.int .i64 x.whi) := cell_of_block zc1 4 (by simp)
  have c20 : W1.cell? ⟨w.heap.size + 1 + 1, 0, none⟩ = some (.int .i64 day) := cell_of_block zc2 0 (by simp)
  have lc0 := (Array.getElem?_eq_some_iff.1 zc0).1
  have lc1 := (Array.getElem?_eq_some_iff.1 zc1).1
  have lc2 := (Array.getElem?_eq_some_iff.1 zc2).1
  have Zc0 := Lib.hid zc0
  have Zc1 := Lib.hid zc1
  clear zc0 zc1 zc2
  have HBc := Lib.hid hBc; clear hBc
  have HWc := Lib.hid hW1; clear hW1
  obtain ⟨s0, hsi, hs0, hs1, hs2⟩ := info_parts infoStay
  have Is := Lib.hid hsi
  have Is0 := Lib.hid hs0
  have Is1 := Lib.hid hs1
  have Is2 := Lib.hid hs2
  clear hsi hs0 hs1 hs2
  obtain ⟨r0, hri, hr0, hr1, hr2⟩ := info_parts infoReg
  have Ir := Lib.hid hri
  have Ir0 := Lib.hid hr0
  have Ir1 := Lib.hid hr1
  have Ir2 := Lib.hid hr2
  clear hri hr0 hr1 hr2
  obtain ⟨n0, hni, hn0, hn1, hn2⟩ := info_parts infoInt8
  have In := Lib.hid hni
  have In0 := Lib.hid hn0
  have In1 := Lib.hid hn1
  have In2 := Lib.hid hn2
  clear hni hn0 hn1 hn2
  have hf : C.Fits := ⟨hl.na, hl.nw, hl.la, hl.lw⟩
  have hk := hl.st
  have HC := Lib.hid (hC.below HBc.out); clear hC
  have HS := Lib.hid (hS.below HBc.out); clear hS
  have HRL := Lib.hid (hL.below HBc.out); clear hL
  have HF := Lib.hid hf; clear hf
  have HLN := Lib.hid hl; clear hl
  obtain ⟨⟨rc, ri, re⟩, hR⟩ : ∃ R, folV C k F G M x n = R := ⟨_, rfl⟩
  have FOL := fun W (hb : Below W1.heap.size W1 W) => Follow_any C x aS aL k cS n cL F G M (rc, ri, re) W (HC.out.below hb) HF.out hk (HS.out.below hb) (HRL.out.below hb) hn hR
  obtain ⟨yv, ye, ATX⟩ : ∃ yv ye, ∀ W (hb : Below W1.heap.size W1 W), Calls Try.prog 17 #[.agg #[.int .i64 C.days, .slice C.aA C.nA C.cA, .slice C.aW C.nW C.cW], x.val, .slice aS k cS, .int .i64 day] W fun e w' => e = .returned (.tuple #[Cont.val yv, .int .i64 ye]) ∧ Below W.heap.size W w' := ⟨_, _, fun W hb => At_any C x aS k cS F G day W (HC.out.below hb) HF.out hk (HS.out.below hb)⟩
  dsimp only at FOL
  unfold Cont.val at FOL ATX
  have FOL' := Lib.hid FOL; clear FOL
  have ATX' := Lib.hid ATX; clear ATX
  clear hR
  have GRX := Lib.hid (fun W b d (hb : Below W1.heap.size W1 W) (hlt : b < W.heap.size) (hc : W.cell? ⟨b, 0, none⟩ = some (.int .i64 d)) => great_x C x aS k cS (some ⟨b, 0, none⟩) 1 1 (fun _ => d) W (HC.out.below hb) HLN.out (ints_one hlt hc) (by omega))
  have GR := GRX.out _ _ _ (Below.refl _ _) lc2 c20
  clear c20
  obtain ⟨gb, hgb⟩ : ∃ gb, greatB C x k 1 (fun _ => day) = gb := ⟨_, rfl⟩
  rw [hgb] at GR
  have HGB := Lib.hid hgb; clear hgb
  unfold Cont.val at GR
  have GR' := Lib.hid GR; clear GR
  cases gb with
  | true =>
    go_enter Try.func13, Try.ntmps13
    go_wp2_with fail
    rw [HWc.out]
    go_wp2_with fail
    refine (Calls.grown (GR'.out)).mono ?_
    rintro e w1 ⟨rfl, z1, rfl⟩
    go_wp2_with fail
    refine (Calls.gw_of (alive_any _)).mono ?_
    rintro e w1 ⟨rfl, z2, rfl⟩
    go_wp2_with fail
    go_ret
    exact ⟨rfl, HBc.out.gw z2⟩
  | false =>
    by_cases n1 : 8 < n
    · go_enter Try.func13, Try.ntmps13
      go_wp2_with fail
      rw [HWc.out]
      go_wp2_with fail
      refine (Calls.grown (GR'.out)).mono ?_
      rintro e w1 ⟨rfl, z1, rfl⟩
      go_wp2_with fail
      refine (Calls.gw_of (alive_any _)).mono ?_
      rintro e w1 ⟨rfl, z2, rfl⟩
      go_wp2_with fail
      go_ret
      exact ⟨rfl, HBc.out.gw z2⟩
    · have hsm := greatB_false HGB.out
      have hg := hsm.1
      have k70 := hg.st
      have na10 := hg.na
      obtain ⟨K, D, E, K10, FLX⟩ : ∃ (K : Nat) (D : Nat → Int) (E : Int), K ≤ 10 ∧ ∀ W (hb : Below W1.heap.size W1 W), Calls Try.prog 41 #[.agg #[.int .i64 C.days, .slice C.aA C.nA C.cA, .slice C.aW C.nW C.cW], x.val, .int .i64 day] W fun e w' => ∃ v, e = .returned (.tuple #[v, .int .i64 E]) ∧ w'.ownsRow W.heap.size 3 1 v K ((List.range K).map fun j => .int .i64 (D j)) ∧ Below W.heap.size W w' :=
        ⟨flN C x day, flD C x day, flE C x day, by unfold flN; split <;> omega, fun W hb => Floors_any C x day W (HC.out.below hb) HF.out⟩
      unfold Cont.val at FLX
      have FLX' := Lib.hid FLX; clear FLX
      obtain ⟨N, A, B, N9, FLAT⟩ : ∃ (N : Nat) (A B : Nat → Int), N ≤ 400 ∧ ∀ W (hb : Below W1.heap.size W1 W) (hz : W.heap[w.heap.size]? = some (.cells #[.int .i64 C.days, .slice C.aA C.nA C.cA, .slice C.aW C.nW C.cW] 24 (0, 0))), Calls Try.prog 45 #[.pointer (some ⟨w.heap.size, 0, none⟩)] W fun e w' => ∃ v, e = .returned v ∧ w'.ownsRow W.heap.size 26 2 v N (spansV N A B) ∧ Below W.heap.size W w' :=
        ⟨_, _, _, by have h := flatN_le (flat20 hg).la _ (Nat.le_refl _); have := hg.nw; omega, fun W hb hz => flat_any C w.heap.size W ⟨hz, HC.out.below hb⟩ (flat20 hg)⟩
      have FLAT' := Lib.hid FLAT; clear FLAT
      clear hsm hg
      go_enter Try.func13, Try.ntmps13
      go_wp2_with fail
      rw [HWc.out]
      go_wp2_with fail
      refine (Calls.grown (GR'.out)).mono ?_
      rintro e w1 ⟨rfl, z1, rfl⟩
      go_wp2_with fail
      go_loopw [41] (fun t wr => ∃ i : Nat, i ≤ n ∧ t = .int .i64 i ∧ Hid (Below W1.heap.size W1 wr)) (fun t _ => n - (intOf t).toNat)
      case atStart => exact ⟨0, Nat.zero_le _, rfl, Lib.hid (below_gw W1 _)⟩
      case round =>
        obtain ⟨i, hi, rfl, SB⟩ := hrel
        have HBw := Lib.hid (thru SB.out HBc.out)
        have Y0 := Lib.hid ((SB.out.block _ lc0).trans Zc0.out)
        have Y1 := Lib.hid ((SB.out.block _ lc1).trans Zc1.out)
        clear c00 c01 c02 c10 c11 c12 c13 c14
        by_cases hlt : i < n
        · rcases HRL.out with hz | ⟨b, off, rfl, lb, hc⟩
          · omega
          · obtain ⟨m0, m1, m2, m3, m4⟩ := hc i hlt
            have lbr := Nat.lt_of_lt_of_le lb SB.out.size
            have q0 := below_cell SB.out m0
            have q1 := below_cell SB.out m1
            have q2 := below_cell SB.out m2
            have q3 := below_cell SB.out m3
            have q4 := below_cell SB.out m4
            clear hc m0 m1 m2 m3 m4
            obtain ⟨m, hm⟩ : ∃ m, M i = m := ⟨_, rfl⟩
            rw [hm] at q0 q1 q2 q3 q4
            clear hm
            go_upto_region 6 with (fail)
            obtain ⟨W2, hW2⟩ : ∃ W2, ((wr)).alloc (.cells #[.int .i64 m.day, .int .i64 m.vlo, .int .i64 m.vhi, .int .i64 m.slo, .int .i64 m.shi] 44) = W2 := ⟨_, rfl⟩
            have hbW2 : Below wr.heap.size wr W2 := by rw [← hW2]; exact (Below.refl _ wr).alloc (by simp [gw_size]) _
            have ZcW2 := Lib.hid ((hbW2.block _ (Array.getElem?_eq_some_iff.1 Y0.out).1).trans Y0.out)
            have ZxW2 := Lib.hid ((hbW2.block _ (Array.getElem?_eq_some_iff.1 Y1.out).1).trans Y1.out)
            have zmW2 : W2.heap[wr.heap.size]? = some (.cells #[.int .i64 m.day, .int .i64 m.vlo, .int .i64 m.vhi, .int .i64 m.slo, .int .i64 m.shi] 44 (0, 0)) := by rw [← hW2]; exact alloc_at (by simp [gw_size])
            have ZmW2 := Lib.hid zmW2; clear zmW2
            have HBW2 := Lib.hid (thru hbW2 HBw.out)
            have SBW2 := Lib.hid hbW2; clear hbW2
            have HWW2 := Lib.hid hW2; clear hW2
            rw [HWW2.out]
            have S2 := Lib.hid (SB.out.trans (SBW2.out.mono SB.out.size))
            have ec0W2 : W2.cell? ⟨w.heap.size, 0, none⟩ = some (.int .i64 C.days) := cell_of_block ZcW2.out 0 (by simp)
            have ec1W2 : W2.cell? ⟨w.heap.size, 1, none⟩ = some (.slice C.aA C.nA C.cA) := cell_of_block ZcW2.out 1 (by simp)
            have ec2W2 : W2.cell? ⟨w.heap.size, 2, none⟩ = some (.slice C.aW C.nW C.cW) := cell_of_block ZcW2.out 2 (by simp)
            have lcW2 := (Array.getElem?_eq_some_iff.1 ZcW2.out).1
            have ex0W2 : W2.cell? ⟨w.heap.size + 1, 0, none⟩ = some (.int .i64 x.day) := cell_of_block ZxW2.out 0 (by simp)
            have ex1W2 : W2.cell? ⟨w.heap.size + 1, 1, none⟩ = some (.int .i64 x.alo) := cell_of_block ZxW2.out 1 (by simp)
            have ex2W2 : W2.cell? ⟨w.heap.size + 1, 2, none⟩ = some (.int .i64 x.ahi) := cell_of_block ZxW2.out 2 (by simp)
            have ex3W2 : W2.cell? ⟨w.heap.size + 1, 3, none⟩ = some (.int .i64 x.wlo) := cell_of_block ZxW2.out 3 (by simp)
            have ex4W2 : W2.cell? ⟨w.heap.size + 1, 4, none⟩ = some (.int .i64 x.whi) := cell_of_block ZxW2.out 4 (by simp)
            have lxW2 := (Array.getElem?_eq_some_iff.1 ZxW2.out).1
            have em0W2 : W2.cell? ⟨wr.heap.size, 0, none⟩ = some (.int .i64 m.day) := cell_of_block ZmW2.out 0 (by simp)
            have em1W2 : W2.cell? ⟨wr.heap.size, 1, none⟩ = some (.int .i64 m.vlo) := cell_of_block ZmW2.out 1 (by simp)
            have em2W2 : W2.cell? ⟨wr.heap.size, 2, none⟩ = some (.int .i64 m.vhi) := cell_of_block ZmW2.out 2 (by simp)
            have em3W2 : W2.cell? ⟨wr.heap.size, 3, none⟩ = some (.int .i64 m.slo) := cell_of_block ZmW2.out 3 (by simp)
            have em4W2 : W2.cell? ⟨wr.heap.size, 4, none⟩ = some (.int .i64 m.shi) := cell_of_block ZmW2.out 4 (by simp)
            have lmW2 := (Array.getElem?_eq_some_iff.1 ZmW2.out).1
            go_wp2_with fail
            obtain ⟨W3, hW3⟩ : ∃ W3, ((W2)).alloc (.cells #[.int .i64 m.day] 3) = W3 := ⟨_, rfl⟩
            have hbW3 : Below W2.heap.size W2 W3 := by rw [← hW3]; exact (Below.refl _ W2).alloc (by simp [gw_size]) _
            have ZcW3 := Lib.hid ((hbW3.block _ (Array.getElem?_eq_some_iff.1 ZcW2.out).1).trans ZcW2.out)
            have ZxW3 := Lib.hid ((hbW3.block _ (Array.getElem?_eq_some_iff.1 ZxW2.out).1).trans ZxW2.out)
            have ZmW3 := Lib.hid ((hbW3.block _ (Array.getElem?_eq_some_iff.1 ZmW2.out).1).trans ZmW2.out)
            have zdW3 : W3.heap[W2.heap.size]? = some (.cells #[.int .i64 m.day] 3 (0, 0)) := by rw [← hW3]; exact alloc_at (by simp [gw_size])
            have ZdW3 := Lib.hid zdW3; clear zdW3
            have HBW3 := Lib.hid (thru hbW3 HBW2.out)
            have SBW3 := Lib.hid hbW3; clear hbW3
            have HWW3 := Lib.hid hW3; clear hW3
            rw [HWW3.out]
            have S3 := Lib.hid (S2.out.trans (SBW3.out.mono S2.out.size))
            have ed0W3 : W3.cell? ⟨W2.heap.size, 0, none⟩ = some (.int .i64 m.day) := cell_of_block ZdW3.out 0 (by simp)
            have ldW3 := (Array.getElem?_eq_some_iff.1 ZdW3.out).1
            have GR := GRX.out _ _ _ S3.out ldW3 ed0W3
            clear ed0W3
            obtain ⟨gb, hgb⟩ : ∃ gb, greatB C x k 1 (fun _ => m.day) = gb := ⟨_, rfl⟩
            rw [hgb] at GR
            clear hgb
            unfold Cont.val at GR
            have GR2 := Lib.hid GR; clear GR
            cases gb with
            | true =>
              refine (Calls.grown (GR2.out)).mono ?_
              rintro e w1 ⟨rfl, z4, rfl⟩
              go_wp2_with fail
              refine (Calls.gw_of (alive_any _)).mono ?_
              rintro e w1 ⟨rfl, z5, rfl⟩
              go_wp2_with fail
              go_ret
              exact ⟨rfl, HBW3.out.gw z5⟩
            | false =>
              refine (Calls.grown (GR2.out)).mono ?_
              rintro e w1 ⟨rfl, z4, rfl⟩
              go_wp2_with fail
              go_roundw
              case rel => exact ⟨i + 1, by omega, by go_num, Lib.hid (S3.out.trans ((below_gw W3 z4).mono S3.out.size))⟩
              case measure => simp [intOf]; omega
        · obtain rfl : n = i := by omega
          have ec0wr : wr.cell? ⟨w.heap.size, 0, none⟩ = some (.int .i64 C.days) := cell_of_block Y0.out 0 (by simp)
          have ec1wr : wr.cell? ⟨w.heap.size, 1, none⟩ = some (.slice C.aA C.nA C.cA) := cell_of_block Y0.out 1 (by simp)
          have ec2wr : wr.cell? ⟨w.heap.size, 2, none⟩ = some (.slice C.aW C.nW C.cW) := cell_of_block Y0.out 2 (by simp)
          have lcwr := (Array.getElem?_eq_some_iff.1 Y0.out).1
          have ex0wr : wr.cell? ⟨w.heap.size + 1, 0, none⟩ = some (.int .i64 x.day) := cell_of_block Y1.out 0 (by simp)
          have ex1wr : wr.cell? ⟨w.heap.size + 1, 1, none⟩ = some (.int .i64 x.alo) := cell_of_block Y1.out 1 (by simp)
          have ex2wr : wr.cell? ⟨w.heap.size + 1, 2, none⟩ = some (.int .i64 x.ahi) := cell_of_block Y1.out 2 (by simp)
          have ex3wr : wr.cell? ⟨w.heap.size + 1, 3, none⟩ = some (.int .i64 x.wlo) := cell_of_block Y1.out 3 (by simp)
          have ex4wr : wr.cell? ⟨w.heap.size + 1, 4, none⟩ = some (.int .i64 x.whi) := cell_of_block Y1.out 4 (by simp)
          have lxwr := (Array.getElem?_eq_some_iff.1 Y1.out).1
          go_wp2_with fail
          refine (FLAT'.out _ SB.out Y0.out).mono ?_
          rintro e u1 ⟨v14, rfl, own14, hb1⟩
          have O14 := Lib.hid own14; clear own14
          have HB1 := Lib.hid hb1; clear hb1
          clear ec0wr ec1wr ec2wr ex0wr ex1wr ex2wr ex3wr ex4wr
          have SBu1 := Lib.hid (HB1.out)
          have Zcu1 := Lib.hid ((SBu1.out.block _ (Array.getElem?_eq_some_iff.1 Y0.out).1).trans Y0.out)
          have Zxu1 := Lib.hid ((SBu1.out.block _ (Array.getElem?_eq_some_iff.1 Y1.out).1).trans Y1.out)
          have HBu1 := Lib.hid (thru SBu1.out HBw.out)
          have Su1 := Lib.hid (SB.out.trans (SBu1.out.mono SB.out.size))
          have NS1 := Lib.hid (spans_news ((HS.out.below Su1.out).below (below_alloc u1 (.cells #[] 53))))
          go_wp2_with (first
            | (at_builtin; refine wpList_append_src (by rfl) _ _ 29 rfl u1.heap.size 53 s0 (.agg #[.int .i64 0, .int .i64 0]) 2 16 Try.underlying29 Is.out Is0.out Is1.out Is2.out rfl (by decide) _ 0 [] rfl (World.ownsRow_lit u1 #[] 0 (Nat.le_refl _) (by unfold maxLen; omega) rfl) aS k cS (spansV k F G) rfl (spansV_len _ _ _) NS1.out (spansV_one _ _ _) (by unfold maxLen; omega) (by omega) (by simp) ?_; intro v15 u2 ownv15 growu2
               simp only [Nat.zero_add, List.nil_append] at ownv15
               have Bu2 := Lib.hid ((below_alloc u1 (.cells #[] 53)).grown growu2 (by simp) (fun g hg => by cases hg; exact Nat.le_refl _))
               have Ov15 := Lib.hid ownv15
               clear ownv15 growu2
               have NS2 := Lib.hid (tups_news ((HRL.out.below (Su1.out.trans (Bu2.out.mono Su1.out.size))).tups.below (below_alloc u2 (.cells #[] 44)))))
            | (at_builtin; refine wpList_append_src (by rfl) _ _ 66 rfl u2.heap.size 44 r0 (.agg #[.int .i64 0, .int .i64 0, .int .i64 0, .int .i64 0, .int .i64 0]) 5 40 Try.underlying66 Ir.out Ir0.out Ir1.out Ir2.out rfl (by decide) _ 0 [] rfl (World.ownsRow_lit u2 #[] 0 (Nat.le_refl _) (by unfold maxLen; omega) rfl) aL n cL (tupsV 5 n fun i q => (M i).num q) rfl (tupsV_len _ _ _) NS2.out (tupsV_one _ _ _) (by unfold maxLen; omega) (by omega) (by simp) ?_; intro v16 u3 ownv16 growu3
               simp only [Nat.zero_add, List.nil_append] at ownv16
               have Bu3 := Lib.hid ((below_alloc u2 (.cells #[] 44)).grown growu3 (by simp) (fun g hg => by cases hg; exact Nat.le_refl _))
               have Ov16 := Lib.hid ownv16
               clear ownv16 growu3
               have B13 := Lib.hid (thru Bu3.out Bu2.out)
               have P14 := Lib.hid (own_below O14.out B13.out)
               have P15 := Lib.hid (own_below Ov15.out Bu3.out)
               have P16 := Lib.hid Ov16.out
               have SBu3 := Lib.hid (B13.out)
               have Zcu3 := Lib.hid ((SBu3.out.block _ (Array.getElem?_eq_some_iff.1 Zcu1.out).1).trans Zcu1.out)
               have Zxu3 := Lib.hid ((SBu3.out.block _ (Array.getElem?_eq_some_iff.1 Zxu1.out).1).trans Zxu1.out)
               have HBu3 := Lib.hid (thru SBu3.out HBu1.out)
               have Su3 := Lib.hid (Su1.out.trans (SBu3.out.mono Su1.out.size))
               have ec0u3 : u3.cell? ⟨w.heap.size, 0, none⟩ = some (.int .i64 C.days) := cell_of_block Zcu3.out 0 (by simp)
               have ec1u3 : u3.cell? ⟨w.heap.size, 1, none⟩ = some (.slice C.aA C.nA C.cA) := cell_of_block Zcu3.out 1 (by simp)
               have ec2u3 : u3.cell? ⟨w.heap.size, 2, none⟩ = some (.slice C.aW C.nW C.cW) := cell_of_block Zcu3.out 2 (by simp)
               have lcu3 := (Array.getElem?_eq_some_iff.1 Zcu3.out).1
               have ex0u3 : u3.cell? ⟨w.heap.size + 1, 0, none⟩ = some (.int .i64 x.day) := cell_of_block Zxu3.out 0 (by simp)
               have ex1u3 : u3.cell? ⟨w.heap.size + 1, 1, none⟩ = some (.int .i64 x.alo) := cell_of_block Zxu3.out 1 (by simp)
               have ex2u3 : u3.cell? ⟨w.heap.size + 1, 2, none⟩ = some (.int .i64 x.ahi) := cell_of_block Zxu3.out 2 (by simp)
               have ex3u3 : u3.cell? ⟨w.heap.size + 1, 3, none⟩ = some (.int .i64 x.wlo) := cell_of_block Zxu3.out 3 (by simp)
               have ex4u3 : u3.cell? ⟨w.heap.size + 1, 4, none⟩ = some (.int .i64 x.whi) := cell_of_block Zxu3.out 4 (by simp)
               have lxu3 := (Array.getElem?_eq_some_iff.1 Zxu3.out).1))
          have FL := Lib.hid (FLX'.out _ Su3.out)
          refine FL.out.mono ?_
          rintro e u4 ⟨v17, rfl, own17, hb4⟩
          have O17 := Lib.hid own17
          obtain ⟨a17, c17, rfl, l17⟩ := ints_of_own own17
          have L17 := Lib.hid l17
          have HB4 := Lib.hid hb4; clear hb4 own17 l17 FL
          clear ec0u3 ec1u3 ec2u3 ex0u3 ex1u3 ex2u3 ex3u3 ex4u3
          have NS3 := Lib.hid (ints_news (L17.out.below (below_alloc u4 (.cells #[] 3))))
          go_wp2_with (first
            | (at_builtin; refine wpList_append_src (by rfl) _ _ 74 rfl u4.heap.size 3 n0 (.int .i64 0) 1 8 Try.underlying74 In.out In0.out In1.out In2.out rfl (by decide) _ 0 [] rfl (World.ownsRow_lit u4 #[] 0 (Nat.le_refl _) (by unfold maxLen; omega) rfl) a17 K c17 (intsV K D) rfl (intsV_len _ _) NS3.out (intsV_one _ _) (by unfold maxLen; omega) (by omega) (by simp) ?_; intro v19 u5 ownv19 growu5
               simp only [Nat.zero_add, List.nil_append] at ownv19
               have Bu5 := Lib.hid ((below_alloc u4 (.cells #[] 3)).grown growu5 (by simp) (fun g hg => by cases hg; exact Nat.le_refl _))
               have Ov19 := Lib.hid ownv19
               clear ownv19 growu5))
          have Q17 := Lib.hid (own_below O17.out Bu5.out)
          have B35 := Lib.hid (thru Bu5.out HB4.out)
          go_wp2_with fail
          go_loopw [75] (fun t wz => ∃ j : Nat, j ≤ K ∧ t = .int .i64 j ∧ ScrN 3 1 K a17 (Value.slice a17 K c17).ownBlock u5 wz) (fun t _ => K - (intOf t).toNat)
          case atStart => exact ⟨0, Nat.zero_le _, rfl, scrN_start Q17.out⟩
          case round =>
            obtain ⟨j, hj, rfl, hscr⟩ := hrel
            by_cases hlt2 : j < K
            · obtain ⟨g, cur, rfl, hg, hcs⟩ := hscr.blk (by omega)
              have v0 := cell_of_block hg j (by omega)
              have f0 := frozen_of_block hg j
              have SC := Lib.hid hscr; clear hscr
              have HG := Lib.hid hg; clear hg
              go_wp2_with fail
              go_roundw
              case rel => exact ⟨j + 1, by omega, by go_num, SC.out.set rfl _ _⟩
              case measure => simp [intOf]; omega
            · obtain rfl : K = j := by omega
              have B3z := Lib.hid (B35.out.grown hscr.gr B35.out.size (fun g hg => (O17.out.lt g hg).1))
              have R14 := Lib.hid (own_below P14.out B3z.out)
              have R15 := Lib.hid (own_below P15.out B3z.out)
              have R16 := Lib.hid (own_below P16.out B3z.out)
              have R19 := Lib.hid (Ov19.out.kept hscr.gr ((Classical.em (v19.ownBlock = none)).imp id (fun hne he => by
                obtain ⟨g, hg⟩ := Option.ne_none_iff_exists'.1 hne
                have q1 := (Ov19.out.lt g hg).1
                have q2 := (O17.out.lt g (by rw [← he]; exact hg)).2
                omega)))
              clear hscr
              have SBwr := Lib.hid (B3z.out)
              have Zcwr := Lib.hid ((SBwr.out.block _ (Array.getElem?_eq_some_iff.1 Zcu3.out).1).trans Zcu3.out)
              have Zxwr := Lib.hid ((SBwr.out.block _ (Array.getElem?_eq_some_iff.1 Zxu3.out).1).trans Zxu3.out)
              have HBwr := Lib.hid (thru SBwr.out HBu3.out)
              have Swr := Lib.hid (Su3.out.trans (SBwr.out.mono Su3.out.size))
              have ec0wr : wr.cell? ⟨w.heap.size, 0, none⟩ = some (.int .i64 C.days) := cell_of_block Zcwr.out 0 (by simp)
              have ec1wr : wr.cell? ⟨w.heap.size, 1, none⟩ = some (.slice C.aA C.nA C.cA) := cell_of_block Zcwr.out 1 (by simp)
              have ec2wr : wr.cell? ⟨w.heap.size, 2, none⟩ = some (.slice C.aW C.nW C.cW) := cell_of_block Zcwr.out 2 (by simp)
              have lcwr := (Array.getElem?_eq_some_iff.1 Zcwr.out).1
              have ex0wr : wr.cell? ⟨w.heap.size + 1, 0, none⟩ = some (.int .i64 x.day) := cell_of_block Zxwr.out 0 (by simp)
              have ex1wr : wr.cell? ⟨w.heap.size + 1, 1, none⟩ = some (.int .i64 x.alo) := cell_of_block Zxwr.out 1 (by simp)
              have ex2wr : wr.cell? ⟨w.heap.size + 1, 2, none⟩ = some (.int .i64 x.ahi) := cell_of_block Zxwr.out 2 (by simp)
              have ex3wr : wr.cell? ⟨w.heap.size + 1, 3, none⟩ = some (.int .i64 x.wlo) := cell_of_block Zxwr.out 3 (by simp)
              have ex4wr : wr.cell? ⟨w.heap.size + 1, 4, none⟩ = some (.int .i64 x.whi) := cell_of_block Zxwr.out 4 (by simp)
              have lxwr := (Array.getElem?_eq_some_iff.1 Zxwr.out).1
              go_wp2_with fail
              refine (Calls.grown (FOL'.out _ (Swr.out))).mono ?_
              rintro e w1 ⟨rfl, z4, rfl⟩
              go_wp2_with fail
              refine (Calls.gw_of (ATX'.out _ (Swr.out.trans ((below_gw wr z4).mono Swr.out.size)))).mono ?_
              rintro e w1 ⟨rfl, z5, rfl⟩
              go_wp2_with fail
              have FL := Lib.hid (FLX'.out _ (Swr.out.trans ((below_gw wr z5).mono Swr.out.size)))
              refine FL.out.mono ?_
              rintro e u6 ⟨v21, rfl, own21, hb6⟩
              have O21 := Lib.hid own21
              have HB6 := Lib.hid (thru hb6 (below_gw wr z5)); clear hb6 own21 FL
              clear ec0wr ec1wr ec2wr ex0wr ex1wr ex2wr ex3wr ex4wr
              have SBu6 := Lib.hid (HB6.out)
              have Zcu6 := Lib.hid ((SBu6.out.block _ (Array.getElem?_eq_some_iff.1 Zcwr.out).1).trans Zcwr.out)
              have Zxu6 := Lib.hid ((SBu6.out.block _ (Array.getElem?_eq_some_iff.1 Zxwr.out).1).trans Zxwr.out)
              have HBu6 := Lib.hid (thru SBu6.out HBwr.out)
              have Su6 := Lib.hid (Swr.out.trans (SBu6.out.mono Swr.out.size))
              go_wp2_with fail
              refine (FLAT'.out _ Su6.out Zcu6.out).mono ?_
              rintro e u7 ⟨v23, rfl, own23, hb7⟩
              have O23 := Lib.hid own23
              have HB7 := Lib.hid hb7; clear hb7 own23
              have SBu7 := Lib.hid (HB7.out)
              have Zcu7 := Lib.hid ((SBu7.out.block _ (Array.getElem?_eq_some_iff.1 Zcu6.out).1).trans Zcu6.out)
              have Zxu7 := Lib.hid ((SBu7.out.block _ (Array.getElem?_eq_some_iff.1 Zxu6.out).1).trans Zxu6.out)
              have HBu7 := Lib.hid (thru SBu7.out HBu6.out)
              have Su7 := Lib.hid (Su6.out.trans (SBu7.out.mono Su6.out.size))
              have Bz7 := Lib.hid (thru HB7.out HB6.out)
              obtain ⟨a14, q14, rfl, l14⟩ := spans_of_own (own_below R14.out Bz7.out)
              have L14 := Lib.hid l14; clear l14
              obtain ⟨a15, q15, rfl, l15⟩ := spans_of_own (own_below R15.out Bz7.out)
              have L15 := Lib.hid l15; clear l15
              obtain ⟨a16, q16, rfl, l16⟩ := tups_of_own (own_below R16.out Bz7.out)
              have L16 := Lib.hid l16; clear l16
              have RG16 := Lib.hid (TupsAt.regs L16.out)
              unfold intsV at R19
              obtain ⟨a19, q19, rfl, l19⟩ := ints_of_own (own_below R19.out Bz7.out)
              have L19 := Lib.hid l19; clear l19
              obtain ⟨a21, q21, rfl, l21⟩ := ints_of_own (own_below O21.out HB7.out)
              have L21 := Lib.hid l21; clear l21
              obtain ⟨a23, q23, rfl, l23⟩ := spans_of_own O23.out
              have L23 := Lib.hid l23; clear l23
              have HS7 := Lib.hid (HS.out.below Su7.out)
              have HL7 := Lib.hid (HRL.out.below Su7.out)
              have INT := Lib.hid (fun z => sameInts_t a21 a19 K q21 q19 D (gw u7 z) (by omega) (L21.out.below (below_gw u7 z)) (L19.out.below (below_gw u7 z)))
              go_wp2_with fail
              go_loopw [103] (fun t wy => ∃ j : Nat, j ≤ N ∧ t = .int .i64 j ∧ ∃ x, wy = gw u7 x) (fun t _ => N - (intOf t).toNat)
              case atStart => exact ⟨0, Nat.zero_le _, rfl, ⟨#[], u7.drawn⟩, by simp [gw]⟩
              case round =>
                obtain ⟨j103, hj103, rfl, y103, rfl⟩ := hrel
                by_cases hlt103 : j103 < N
                · obtain ⟨b8, o8, rfl, lb8, hc8⟩ := L14.out.resolve_left (by omega)
                  obtain ⟨b9, o9, rfl, lb9, hc9⟩ := L23.out.resolve_left (by omega)
                  obtain ⟨x0, x1⟩ := hc8 j103 hlt103
                  obtain ⟨z0, z1⟩ := hc9 j103 hlt103
                  clear hc8 hc9
                  go_wp2_with fail
                  refine wp_region_gw2 (by kernel_rfl) (by kernel_rfl) ?_
                  repeat (go_big_quiet_step (fail))
                  refine wpQuiet_nil ?_
                  rintro _ ⟨z, rfl⟩
                  go_wp2_with fail
                  go_roundw
                  case rel => exact ⟨j103 + 1, by omega, by go_num, z, rfl⟩
                  case measure => simp [intOf]; omega
                · obtain rfl : N = j103 := by omega
                  go_wp2_with fail
                  go_loopw [118] (fun t wy => ∃ j : Nat, j ≤ k ∧ t = .int .i64 j ∧ ∃ x, wy = gw u7 x) (fun t _ => k - (intOf t).toNat)
                  case atStart => exact ⟨0, Nat.zero_le _, rfl, y103, rfl⟩
                  case round =>
                    obtain ⟨j118, hj118, rfl, y118, rfl⟩ := hrel
                    by_cases hlt118 : j118 < k
                    · obtain ⟨b8, o8, rfl, lb8, hc8⟩ := L15.out.resolve_left (by omega)
                      obtain ⟨b9, o9, rfl, lb9, hc9⟩ := HS7.out.resolve_left (by omega)
                      obtain ⟨x0, x1⟩ := hc8 j118 hlt118
                      obtain ⟨z0, z1⟩ := hc9 j118 hlt118
                      clear hc8 hc9
                      go_wp2_with fail
                      refine wp_region_gw2 (by kernel_rfl) (by kernel_rfl) ?_
                      repeat (go_big_quiet_step (fail))
                      refine wpQuiet_nil ?_
                      rintro _ ⟨z, rfl⟩
                      go_wp2_with fail
                      go_roundw
                      case rel => exact ⟨j118 + 1, by omega, by go_num, z, rfl⟩
                      case measure => simp [intOf]; omega
                    · obtain rfl : k = j118 := by omega
                      go_wp2_with fail
                      go_loopw [133] (fun t wy => ∃ j : Nat, j ≤ n ∧ t = .int .i64 j ∧ ∃ x, wy = gw u7 x) (fun t _ => n - (intOf t).toNat)
                      case atStart => exact ⟨0, Nat.zero_le _, rfl, y118, rfl⟩
                      case round =>
                        obtain ⟨j133, hj133, rfl, y133, rfl⟩ := hrel
                        by_cases hlt133 : j133 < n
                        · obtain ⟨b8, o8, rfl, lb8, hc8⟩ := RG16.out.resolve_left (by omega)
                          obtain ⟨b9, o9, rfl, lb9, hc9⟩ := HL7.out.resolve_left (by omega)
                          obtain ⟨x0, x1, x2, x3, x4⟩ := hc8 j133 hlt133
                          obtain ⟨z0, z1, z2, z3, z4⟩ := hc9 j133 hlt133
                          clear hc8 hc9
                          go_wp2_with fail
                          refine wp_region_gw2 (by kernel_rfl) (by kernel_rfl) ?_
                          repeat (go_big_quiet_step (fail))
                          refine wpQuiet_nil ?_
                          rintro _ ⟨z, rfl⟩
                          go_wp2_with fail
                          go_roundw
                          case rel => exact ⟨j133 + 1, by omega, by go_num, z, rfl⟩
                          case measure => simp [intOf]; omega
                        · obtain rfl : n = j133 := by omega
                          go_wp2_with fail
                          refine (Calls.gw_of (INT.out y133)).mono ?_
                          rintro e w1 ⟨rfl, z61, rfl⟩
                          go_wp2_with fail
                          refine (Calls.gw_of (alive_any _)).mono ?_
                          rintro e w1 ⟨rfl, z62, rfl⟩
                          go_wp2_with fail
                          go_ret
                          exact ⟨rfl, HBu7.out.gw z62⟩
end Go.Proofs.Ytljofnmgddfljaa
