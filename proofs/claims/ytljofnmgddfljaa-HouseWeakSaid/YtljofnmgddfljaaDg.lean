/- HouseWeak walked: it returns true. No conditions beyond each theorem's own. -/
import Derived.Test.YtljofnmgddfljaaCe
import Derived.Test.YtljofnmgddfljaaEb
set_option linter.unusedVariables false
set_option linter.unusedSimpArgs false
set_option linter.unusedSectionVars false
set_option linter.constructorNameAsVariable false
namespace Go.Proofs.Ytljofnmgddfljaa
open Go.RowKit

attribute [local go_sem] gw_cell gw_frozen gw_size

set_option maxRecDepth 100000 in
set_option maxHeartbeats 8000000 in
theorem weak_law_any (C : Clim) (x : Cont) (aS : Option Addr) (k cS : Nat) (F G : Nat → Int) (tu least wh : Int) (w : World) (hC : C.In w) (hl : Lens C k) (hS : SpansAt w aS k F G) (hk0 : 0 ≤ wh) (hk1 : wh ≤ 65535) :
    Calls Try.prog 9 #[.agg #[.int .i64 C.days, .slice C.aA C.nA C.cA, .slice C.aW C.nW C.cW], x.val, .slice aS k cS, .int .i64 tu, .int .i64 least, .int .u16 wh] w (True1 w) := by
  unfold Cont.val
  obtain ⟨W1, hW1⟩ : ∃ W1, ((w.alloc (.cells #[.int .i64 C.days, .slice C.aA C.nA C.cA, .slice C.aW C.nW C.cW] 24)).alloc (.cells #[.int .i64 x.day, .int .i64 x.alo, .int .i64 x.ahi, .int .i64 x.wlo, .int .i64 x.whi] 28)).alloc (.cells #[.int .i64 tu] 3) = W1 := ⟨_, rfl⟩
  have hBc : Below w.heap.size w W1 := by rw [← hW1]; exact ((below_alloc _ _).alloc (by simp) _).alloc (by simp <;> omega) _
  have zc0 : W1.heap[w.heap.size]? = some (.cells #[.int .i64 C.days, .slice C.aA C.nA C.cA, .slice C.aW C.nW C.cW] 24 (0, 0)) := by rw [← hW1]; exact alloc_keep (alloc_keep (alloc_at rfl))
  have zc1 : W1.heap[w.heap.size + 1]? = some (.cells #[.int .i64 x.day, .int .i64 x.alo, .int .i64 x.ahi, .int .i64 x.wlo, .int .i64 x.whi] 28 (0, 0)) := by rw [← hW1]; exact alloc_keep (alloc_at (by simp))
  have zc2 : W1.heap[w.heap.size + 1 + 1]? = some (.cells #[.int .i64 tu] 3 (0, 0)) := by rw [← hW1]; exact alloc_at (by simp <;> omega)
  have c00 : W1.cell? ⟨w.heap.size, 0, none⟩ = some (.int .i64 C.days) := cell_of_block zc0 0 (by simp)
  have c01 : W1.cell? ⟨w.heap.size, 1, none⟩ = some (.slice C.aA C.nA C.cA) := cell_of_block zc0 1 (by simp)
  have c02 : W1.cell? ⟨w.heap.size, 2, none⟩ = some (.slice C.aW C.nW C.cW) := cell_of_block zc0 2 (by simp)
  have c10 : W1.cell? ⟨w.heap.size + 1, 0, none⟩ = some (.int .i64 x.day) := cell_of_block zc1 0 (by simp)
  have c11 : W1.cell? ⟨w.heap.size + 1, 1, none⟩ = some (.int .i64 x.alo) := cell_of_block zc1 1 (by simp)
  have c12 : W1.cell? ⟨w.heap.size + 1, 2, none⟩ = some (.int .i64 x.ahi) := cell_of_block zc1 2 (by simp)
  have c13 : W1.cell? ⟨w.heap.size + 1, 3, none⟩ = some (.int .i64 x.wlo) := cell_of_block zc1 3 (by simp)
  have c14 : W1.cell? ⟨w.heap.size + 1, 4, none⟩ = some (.int .i64 x.whi) := cell_of_block zc1 4 (by simp)
  have c20 : W1.cell? ⟨w.heap.size + 1 + 1, 0, none⟩ = some (.int .i64 tu) := cell_of_block zc2 0 (by simp)
  have lc0 := (Array.getElem?_eq_some_iff.1 zc0).1
  have lc1 := (Array.getElem?_eq_some_iff.1 zc1).1
  have lc2 := (Array.getElem?_eq_some_iff.1 zc2).1
  have Zc0 := Lib.hid zc0
  have Zc1 := Lib.hid zc1
  clear zc0 zc1 zc2
  have HBc := Lib.hid hBc; clear hBc
  have HWc := Lib.hid hW1; clear hW1
  have GR := great_any C x aS k cS (some ⟨w.heap.size + 1 + 1, 0, none⟩) 1 1 (fun _ => tu) W1 (hC.below HBc.out) hl (ints_one lc2 c20) (by omega)
  have HC := Lib.hid (hC.below HBc.out); clear hC
  have HS := Lib.hid (hS.below HBc.out); clear hS
  unfold Cont.val at GR
  have GR' := Lib.hid GR; clear GR c20
  go_enter Try.func9, Try.ntmps9
  go_wp2_with fail
  rw [HWc.out]
  go_wp2_with fail
  refine GR'.out.mono ?_
  rintro e w1 ⟨b, rfl, hg, hb⟩
  obtain ⟨z1, rfl⟩ := gw_of_below hb
  clear hb
  cases b with
  | true =>
    clear hg
    go_wp2_with fail
    refine (Calls.gw_of (alive_any _)).mono ?_
    rintro e w1 ⟨rfl, z2, rfl⟩
    go_wp2_with fail
    go_ret
    exact ⟨rfl, HBc.out.gw z2⟩
  | false =>
    have gd := hg rfl
    have hk : k ≤ 1000000000000000 := by have := gd.st; omega
    have WE := fun W (hb : Below W1.heap.size W1 W) => Weak_any C x aS k cS F G tu least W (HC.out.below hb) gd.fits hk (HS.out.below hb)
    have AT := fun d W (hb : Below W1.heap.size W1 W) => At_any C x aS k cS F G d W (HC.out.below hb) gd.fits hk (HS.out.below hb)
    unfold Cont.val at WE
    rw [show x.val = .agg #[.int .i64 x.day, .int .i64 x.alo, .int .i64 x.ahi, .int .i64 x.wlo, .int .i64 x.whi] from rfl] at AT
    have AT' := Lib.hid AT; clear AT
    have WE' := Lib.hid WE; clear WE
    clear hg gd hk
    obtain ⟨u, hu⟩ : ∃ u, IntKind.i64.wrap (tu - x.day) = u := ⟨_, rfl⟩
    by_cases hu3 : 300 < u
    · clear AT' WE'
      go_wp2_with fail
      refine (Calls.gw_of (alive_any _)).mono ?_
      rintro e w1 ⟨rfl, z2, rfl⟩
      go_wp2_with fail
      go_ret
      exact ⟨rfl, HBc.out.gw z2⟩
    · by_cases h0 : weakErr C x k F G tu least = 0
      · have hE := weakErr_zero h0
        obtain ⟨g1, g2, g3, g4, g5, g6⟩ := errH_zero hE
        obtain ⟨⟨xd0, xd1⟩, -⟩ := contB_t g2
        have w1 : weakR C x k F G tu least = _ := if_pos h0
        have w2 : weakF C x k F G tu least = _ := if_pos h0
        have SL := weakS_le (C := C) (x := x) (k := k) (F := F) (G := G) (m := (tu - x.day).toNat) (least := least)
        have ST := fun j => weakS_lt (C := C) (x := x) (k := k) (F := F) (G := G) (m := (tu - x.day).toNat) (least := least) (j := j)
        have SS := weakS_stop (C := C) (x := x) (k := k) (F := F) (G := G) (m := (tu - x.day).toNat) (least := least)
        have hu2 : tu - x.day = u := by rw [← hu]; exact (IntWalk.i64_in _ (by omega)).symm
        have DC := dayC_ok g1 g3 g2
        have h301 : ¬ 300 < tu - x.day := by omega
        by_cases hs : weakS C x k F G (tu - x.day).toNat least < (tu - x.day).toNat + 1
        · have e1 : weakR C x k F G tu least = x.day + weakS C x k F G (tu - x.day).toNat least := by rw [w1]; exact if_pos hs
          have e2 : weakF C x k F G tu least = 0 := by rw [w2]; exact if_pos hs
          have SS2 := SS hs
          generalize weakS C x k F G (tu - x.day).toNat least = s at *
          obtain ⟨n, hn⟩ : ∃ n : Int, x.day + s = n := ⟨_, rfl⟩
          rw [e1, e2, hn] at WE'
          have nb : x.day ≤ n ∧ n ≤ tu := by omega
          obtain ⟨n0, n1⟩ := nb
          obtain ⟨q1, q2⟩ := errH_day hE n0 n1
          rw [show (n - x.day).toNat = s by omega] at q2
          have AT1 := fun W hb => AT'.out n W hb
          rw [q1, q2] at AT1
          have cy := (DC s (by omega)).1
          obtain ⟨y, hy⟩ : ∃ y, dayC C F G k x s = y := ⟨_, rfl⟩
          rw [hy] at AT1 SS2 cy
          have SG := fun W (hb : Below W1.heap.size W1 W) => Strength_ok y W cy
          generalize strLo y = A at *
          generalize strHi y = B at *
          unfold Cont.val at AT1 SG
          have AT1' := Lib.hid AT1; clear AT1
          have SG' := Lib.hid SG; clear SG
          clear hu SS w1 w2 e1 e2 q1 q2 h0 cy
          have HY := Lib.hid hy; clear hy
          by_cases hx : n - 1 < x.day
          · clear ST DC
            have HN := Lib.hid hn; clear hn
            have HU2 := Lib.hid hu2; clear hu2
            have HGG := Lib.hid (And.intro g1 (And.intro g2 g3)); clear g1 g2 g3 g6 hE
            go_wp2_with fail
            refine (Calls.gw_of (WE'.out _ (below_gw W1 z1))).mono ?_
            rintro e w1 ⟨rfl, z2, rfl⟩
            go_wp2_with fail
            refine (Calls.gw_of (AT1'.out _ (below_gw W1 z2))).mono ?_
            rintro e w1 ⟨rfl, z3, rfl⟩
            go_upto_region 11 with (fail)
            obtain ⟨W2, hW2⟩ : ∃ W2, ((gw W1 z3)).alloc (.cells #[.int .i64 y.day, .int .i64 y.alo, .int .i64 y.ahi, .int .i64 y.wlo, .int .i64 y.whi] 28) = W2 := ⟨_, rfl⟩
            have hbW2 : Below W1.heap.size W1 W2 := by rw [← hW2]; exact (below_gw W1 z3).alloc (by simp [gw_size]) _
            have ZcW2 := Lib.hid ((hbW2.block _ (Array.getElem?_eq_some_iff.1 Zc0.out).1).trans Zc0.out)
            have ZxW2 := Lib.hid ((hbW2.block _ (Array.getElem?_eq_some_iff.1 Zc1.out).1).trans Zc1.out)
            have zyW2 : W2.heap[W1.heap.size + z3.bs.size]? = some (.cells #[.int .i64 y.day, .int .i64 y.alo, .int .i64 y.ahi, .int .i64 y.wlo, .int .i64 y.whi] 28 (0, 0)) := by rw [← hW2]; exact alloc_at (by simp [gw_size])
            have ZyW2 := Lib.hid zyW2; clear zyW2
            have HBW2 := Lib.hid (thru hbW2 HBc.out)
            have SBW2 := Lib.hid hbW2; clear hbW2
            have HWW2 := Lib.hid hW2; clear hW2
            rw [HWW2.out]
            clear c00 c01 c02 c10 c11 c12 c13 c14
            have S2 := Lib.hid SBW2.out
            have ec0W2 : W2.cell? ⟨w.heap.size, 0, none⟩ = some (.int .i64 C.days) := cell_of_block ZcW2.out 0 (by simp)
            have ec1W2 : W2.cell? ⟨w.heap.size, 1, none⟩ = some (.slice C.aA C.nA C.cA) := cell_of_block ZcW2.out 1 (by simp)
            have ec2W2 : W2.cell? ⟨w.heap.size, 2, none⟩ = some (.slice C.aW C.nW C.cW) := cell_of_block ZcW2.out 2 (by simp)
            have lcW2 := (Array.getElem?_eq_some_iff.1 ZcW2.out).1
            have ex0W2 : W2.cell? ⟨w.heap.size + 1, 0, none⟩ = some (.int .i64 x.day) := cell_of_block ZxW2.out 0 (by simp)
            have ex1W2 : W2.cell? ⟨w.heap.size + 1, 1, none⟩ = some (.int .i64 x.alo) := cell_of_block ZxW2.out 1 (by simp)
            have ex2W2 : W2.cell? ⟨w.heap.size + 1, 2, none⟩ = some (.int .i64 x.ahi) := cell_of_block ZxW2.out 2 (by simp)
            have ex3W2 : W2.cell? ⟨w.heap.size + 1, 3, none⟩ = some (.int .i64 x.wlo) := cell_of_block ZxW2.out 3 (by simp)
            have ex4W2 : W2.cell? ⟨w.heap.size + 1, 4, none⟩ = some (.int .i64 x.whi) := cell_of_block ZxW2.out 4 (by simp)
            have lxW2 := (Array.getElem?_eq_some_iff.1 ZxW2.out).1
            have ey0W2 : W2.cell? ⟨W1.heap.size + z3.bs.size, 0, none⟩ = some (.int .i64 y.day) := cell_of_block ZyW2.out 0 (by simp)
            have ey1W2 : W2.cell? ⟨W1.heap.size + z3.bs.size, 1, none⟩ = some (.int .i64 y.alo) := cell_of_block ZyW2.out 1 (by simp)
            have ey2W2 : W2.cell? ⟨W1.heap.size + z3.bs.size, 2, none⟩ = some (.int .i64 y.ahi) := cell_of_block ZyW2.out 2 (by simp)
            have ey3W2 : W2.cell? ⟨W1.heap.size + z3.bs.size, 3, none⟩ = some (.int .i64 y.wlo) := cell_of_block ZyW2.out 3 (by simp)
            have ey4W2 : W2.cell? ⟨W1.heap.size + z3.bs.size, 4, none⟩ = some (.int .i64 y.whi) := cell_of_block ZyW2.out 4 (by simp)
            have lyW2 := (Array.getElem?_eq_some_iff.1 ZyW2.out).1
            go_wp2_with fail
            refine (Calls.grown (SG'.out _ (S2.out))).mono ?_
            rintro e w1 ⟨rfl, z4, rfl⟩
            go_upto_region 12 with (fail)
            obtain ⟨W3, hW3⟩ : ∃ W3, ((gw W2 z4)).alloc (.cells #[.int .i64 A, .int .i64 B] 26) = W3 := ⟨_, rfl⟩
            have hbW3 : Below W2.heap.size W2 W3 := by rw [← hW3]; exact (below_gw W2 z4).alloc (by simp [gw_size]) _
            have ZcW3 := Lib.hid ((hbW3.block _ (Array.getElem?_eq_some_iff.1 ZcW2.out).1).trans ZcW2.out)
            have ZxW3 := Lib.hid ((hbW3.block _ (Array.getElem?_eq_some_iff.1 ZxW2.out).1).trans ZxW2.out)
            have ZyW3 := Lib.hid ((hbW3.block _ (Array.getElem?_eq_some_iff.1 ZyW2.out).1).trans ZyW2.out)
            have zsW3 : W3.heap[W2.heap.size + z4.bs.size]? = some (.cells #[.int .i64 A, .int .i64 B] 26 (0, 0)) := by rw [← hW3]; exact alloc_at (by simp [gw_size])
            have ZsW3 := Lib.hid zsW3; clear zsW3
            have HBW3 := Lib.hid (thru hbW3 HBW2.out)
            have SBW3 := Lib.hid hbW3; clear hbW3
            have HWW3 := Lib.hid hW3; clear hW3
            rw [HWW3.out]
            clear ec0W2 ec1W2 ec2W2 ex0W2 ex1W2 ex2W2 ex3W2 ex4W2 ey0W2 ey1W2 ey2W2 ey3W2 ey4W2
            have S3 := Lib.hid (S2.out.trans (SBW3.out.mono S2.out.size))
            have ec0W3 : W3.cell? ⟨w.heap.size, 0, none⟩ = some (.int .i64 C.days) := cell_of_block ZcW3.out 0 (by simp)
            have ec1W3 : W3.cell? ⟨w.heap.size, 1, none⟩ = some (.slice C.aA C.nA C.cA) := cell_of_block ZcW3.out 1 (by simp)
            have ec2W3 : W3.cell? ⟨w.heap.size, 2, none⟩ = some (.slice C.aW C.nW C.cW) := cell_of_block ZcW3.out 2 (by simp)
            have lcW3 := (Array.getElem?_eq_some_iff.1 ZcW3.out).1
            have ex0W3 : W3.cell? ⟨w.heap.size + 1, 0, none⟩ = some (.int .i64 x.day) := cell_of_block ZxW3.out 0 (by simp)
            have ex1W3 : W3.cell? ⟨w.heap.size + 1, 1, none⟩ = some (.int .i64 x.alo) := cell_of_block ZxW3.out 1 (by simp)
            have ex2W3 : W3.cell? ⟨w.heap.size + 1, 2, none⟩ = some (.int .i64 x.ahi) := cell_of_block ZxW3.out 2 (by simp)
            have ex3W3 : W3.cell? ⟨w.heap.size + 1, 3, none⟩ = some (.int .i64 x.wlo) := cell_of_block ZxW3.out 3 (by simp)
            have ex4W3 : W3.cell? ⟨w.heap.size + 1, 4, none⟩ = some (.int .i64 x.whi) := cell_of_block ZxW3.out 4 (by simp)
            have lxW3 := (Array.getElem?_eq_some_iff.1 ZxW3.out).1
            have es0W3 : W3.cell? ⟨W2.heap.size + z4.bs.size, 0, none⟩ = some (.int .i64 A) := cell_of_block ZsW3.out 0 (by simp)
            have es1W3 : W3.cell? ⟨W2.heap.size + z4.bs.size, 1, none⟩ = some (.int .i64 B) := cell_of_block ZsW3.out 1 (by simp)
            have lsW3 := (Array.getElem?_eq_some_iff.1 ZsW3.out).1
            go_wp2_with fail
            refine (Calls.grown (alive_any _)).mono ?_
            rintro e w1 ⟨rfl, z5, rfl⟩
            go_wp2_with fail
            go_ret
            exact ⟨rfl, HBW3.out.gw z5⟩
          · obtain ⟨d, hd⟩ : ∃ d, x.day + wh % (n - 1 - x.day + 1) = d := ⟨_, rfl⟩
            have r0 := Int.emod_nonneg wh (show n - 1 - x.day + 1 ≠ 0 by omega)
            have r1 := Int.emod_lt_of_pos wh (show 0 < n - 1 - x.day + 1 by omega)
            obtain ⟨p1, p2⟩ := errH_day hE (show x.day ≤ d by omega) (show d ≤ tu by omega)
            have AT2 := fun W hb => AT'.out d W hb
            rw [p1, p2] at AT2
            have cv := (DC (d - x.day).toNat (by omega)).1
            have lv := ST (d - x.day).toNat (by omega)
            obtain ⟨v, hv⟩ : ∃ v, dayC C F G k x (d - x.day).toNat = v := ⟨_, rfl⟩
            rw [hv] at AT2 lv cv
            rw [← hd] at AT2
            have SG2 := fun W (hb : Below W1.heap.size W1 W) => Strength_ok v W cv
            generalize strLo v = A2 at *
            generalize strHi v = B2 at *
            unfold Cont.val at AT2 SG2
            have AT2' := Lib.hid AT2; clear AT2
            have SG2' := Lib.hid SG2; clear SG2
            clear p1 p2 cv ST DC
            have HD := Lib.hid hd; clear hd
            have nz : ¬ n - 1 - x.day + 1 = 0 := by omega
            have n2 : 0 ≤ n - 1 - x.day + 1 := by omega
            have HV := Lib.hid hv; clear hv
            have HN := Lib.hid hn; clear hn
            have HU2 := Lib.hid hu2; clear hu2
            have HGG := Lib.hid (And.intro g1 (And.intro g2 g3)); clear g1 g2 g3 g6 hE
            go_wp2_with fail
            refine (Calls.gw_of (WE'.out _ (below_gw W1 z1))).mono ?_
            rintro e w1 ⟨rfl, z2, rfl⟩
            go_wp2_with fail
            refine (Calls.gw_of (AT1'.out _ (below_gw W1 z2))).mono ?_
            rintro e w1 ⟨rfl, z3, rfl⟩
            go_upto_region 11 with (fail)
            obtain ⟨W2, hW2⟩ : ∃ W2, ((gw W1 z3)).alloc (.cells #[.int .i64 y.day, .int .i64 y.alo, .int .i64 y.ahi, .int .i64 y.wlo, .int .i64 y.whi] 28) = W2 := ⟨_, rfl⟩
            have hbW2 : Below W1.heap.size W1 W2 := by rw [← hW2]; exact (below_gw W1 z3).alloc (by simp [gw_size]) _
            have ZcW2 := Lib.hid ((hbW2.block _ (Array.getElem?_eq_some_iff.1 Zc0.out).1).trans Zc0.out)
            have ZxW2 := Lib.hid ((hbW2.block _ (Array.getElem?_eq_some_iff.1 Zc1.out).1).trans Zc1.out)
            have zyW2 : W2.heap[W1.heap.size + z3.bs.size]? = some (.cells #[.int .i64 y.day, .int .i64 y.alo, .int .i64 y.ahi, .int .i64 y.wlo, .int .i64 y.whi] 28 (0, 0)) := by rw [← hW2]; exact alloc_at (by simp [gw_size])
            have ZyW2 := Lib.hid zyW2; clear zyW2
            have HBW2 := Lib.hid (thru hbW2 HBc.out)
            have SBW2 := Lib.hid hbW2; clear hbW2
            have HWW2 := Lib.hid hW2; clear hW2
            rw [HWW2.out]
            clear c00 c01 c02 c10 c11 c12 c13 c14
            have S2 := Lib.hid SBW2.out
            have ec0W2 : W2.cell? ⟨w.heap.size, 0, none⟩ = some (.int .i64 C.days) := cell_of_block ZcW2.out 0 (by simp)
            have ec1W2 : W2.cell? ⟨w.heap.size, 1, none⟩ = some (.slice C.aA C.nA C.cA) := cell_of_block ZcW2.out 1 (by simp)
            have ec2W2 : W2.cell? ⟨w.heap.size, 2, none⟩ = some (.slice C.aW C.nW C.cW) := cell_of_block ZcW2.out 2 (by simp)
            have lcW2 := (Array.getElem?_eq_some_iff.1 ZcW2.out).1
            have ex0W2 : W2.cell? ⟨w.heap.size + 1, 0, none⟩ = some (.int .i64 x.day) := cell_of_block ZxW2.out 0 (by simp)
            have ex1W2 : W2.cell? ⟨w.heap.size + 1, 1, none⟩ = some (.int .i64 x.alo) := cell_of_block ZxW2.out 1 (by simp)
            have ex2W2 : W2.cell? ⟨w.heap.size + 1, 2, none⟩ = some (.int .i64 x.ahi) := cell_of_block ZxW2.out 2 (by simp)
            have ex3W2 : W2.cell? ⟨w.heap.size + 1, 3, none⟩ = some (.int .i64 x.wlo) := cell_of_block ZxW2.out 3 (by simp)
            have ex4W2 : W2.cell? ⟨w.heap.size + 1, 4, none⟩ = some (.int .i64 x.whi) := cell_of_block ZxW2.out 4 (by simp)
            have lxW2 := (Array.getElem?_eq_some_iff.1 ZxW2.out).1
            have ey0W2 : W2.cell? ⟨W1.heap.size + z3.bs.size, 0, none⟩ = some (.int .i64 y.day) := cell_of_block ZyW2.out 0 (by simp)
            have ey1W2 : W2.cell? ⟨W1.heap.size + z3.bs.size, 1, none⟩ = some (.int .i64 y.alo) := cell_of_block ZyW2.out 1 (by simp)
            have ey2W2 : W2.cell? ⟨W1.heap.size + z3.bs.size, 2, none⟩ = some (.int .i64 y.ahi) := cell_of_block ZyW2.out 2 (by simp)
            have ey3W2 : W2.cell? ⟨W1.heap.size + z3.bs.size, 3, none⟩ = some (.int .i64 y.wlo) := cell_of_block ZyW2.out 3 (by simp)
            have ey4W2 : W2.cell? ⟨W1.heap.size + z3.bs.size, 4, none⟩ = some (.int .i64 y.whi) := cell_of_block ZyW2.out 4 (by simp)
            have lyW2 := (Array.getElem?_eq_some_iff.1 ZyW2.out).1
            go_wp2_with fail
            refine (Calls.grown (SG'.out _ (S2.out))).mono ?_
            rintro e w1 ⟨rfl, z4, rfl⟩
            go_upto_region 12 with (fail)
            obtain ⟨W3, hW3⟩ : ∃ W3, ((gw W2 z4)).alloc (.cells #[.int .i64 A, .int .i64 B] 26) = W3 := ⟨_, rfl⟩
            have hbW3 : Below W2.heap.size W2 W3 := by rw [← hW3]; exact (below_gw W2 z4).alloc (by simp [gw_size]) _
            have ZcW3 := Lib.hid ((hbW3.block _ (Array.getElem?_eq_some_iff.1 ZcW2.out).1).trans ZcW2.out)
            have ZxW3 := Lib.hid ((hbW3.block _ (Array.getElem?_eq_some_iff.1 ZxW2.out).1).trans ZxW2.out)
            have ZyW3 := Lib.hid ((hbW3.block _ (Array.getElem?_eq_some_iff.1 ZyW2.out).1).trans ZyW2.out)
            have zsW3 : W3.heap[W2.heap.size + z4.bs.size]? = some (.cells #[.int .i64 A, .int .i64 B] 26 (0, 0)) := by rw [← hW3]; exact alloc_at (by simp [gw_size])
            have ZsW3 := Lib.hid zsW3; clear zsW3
            have HBW3 := Lib.hid (thru hbW3 HBW2.out)
            have SBW3 := Lib.hid hbW3; clear hbW3
            have HWW3 := Lib.hid hW3; clear hW3
            rw [HWW3.out]
            clear ec0W2 ec1W2 ec2W2 ex0W2 ex1W2 ex2W2 ex3W2 ex4W2 ey0W2 ey1W2 ey2W2 ey3W2 ey4W2
            have S3 := Lib.hid (S2.out.trans (SBW3.out.mono S2.out.size))
            have ec0W3 : W3.cell? ⟨w.heap.size, 0, none⟩ = some (.int .i64 C.days) := cell_of_block ZcW3.out 0 (by simp)
            have ec1W3 : W3.cell? ⟨w.heap.size, 1, none⟩ = some (.slice C.aA C.nA C.cA) := cell_of_block ZcW3.out 1 (by simp)
            have ec2W3 : W3.cell? ⟨w.heap.size, 2, none⟩ = some (.slice C.aW C.nW C.cW) := cell_of_block ZcW3.out 2 (by simp)
            have lcW3 := (Array.getElem?_eq_some_iff.1 ZcW3.out).1
            have ex0W3 : W3.cell? ⟨w.heap.size + 1, 0, none⟩ = some (.int .i64 x.day) := cell_of_block ZxW3.out 0 (by simp)
            have ex1W3 : W3.cell? ⟨w.heap.size + 1, 1, none⟩ = some (.int .i64 x.alo) := cell_of_block ZxW3.out 1 (by simp)
            have ex2W3 : W3.cell? ⟨w.heap.size + 1, 2, none⟩ = some (.int .i64 x.ahi) := cell_of_block ZxW3.out 2 (by simp)
            have ex3W3 : W3.cell? ⟨w.heap.size + 1, 3, none⟩ = some (.int .i64 x.wlo) := cell_of_block ZxW3.out 3 (by simp)
            have ex4W3 : W3.cell? ⟨w.heap.size + 1, 4, none⟩ = some (.int .i64 x.whi) := cell_of_block ZxW3.out 4 (by simp)
            have lxW3 := (Array.getElem?_eq_some_iff.1 ZxW3.out).1
            have es0W3 : W3.cell? ⟨W2.heap.size + z4.bs.size, 0, none⟩ = some (.int .i64 A) := cell_of_block ZsW3.out 0 (by simp)
            have es1W3 : W3.cell? ⟨W2.heap.size + z4.bs.size, 1, none⟩ = some (.int .i64 B) := cell_of_block ZsW3.out 1 (by simp)
            have lsW3 := (Array.getElem?_eq_some_iff.1 ZsW3.out).1
            go_upto_region 17 with (fail)
            refine wp_region_box1 [true, true, true, true, true, true, true, true, true, true, true, true, true, true, true, true, true, true, false, false, true] 18 19 #[.int .i64 0, .int .i64 0, .int .i64 0, .int .i64 0, .int .i64 0] #[.int .i64 v.day, .int .i64 v.alo, .int .i64 v.ahi, .int .i64 v.wlo, .int .i64 v.whi] (by kernel_rfl) rfl rfl rfl (by kernel_rfl) rfl (by kernel_rfl) infoCont rfl rfl (by simp [Value.oneCell']) ?_
            apply Exists.intro
            refine ⟨fun S hS hx => ?_, ?_, ?_⟩
            · obtain ⟨x0, hx0⟩ := hx
              haveI : Nonempty (GrewS W3 S) := ⟨⟨x0, hx0⟩⟩
              simp only [pickM]
              repeat (go_big_quiet_step ((go_at_call 17; with_reducible exact Calls.gwS hS (AT2'.out _ (S3.out.trans ((below_gw W3 _).mono S3.out.size))))))
              exact wpQuiet_nil rfl
            · rfl
            · intro B5 w5 hBw hblk hb5
              have s0 := cell_of_block hblk 0 (by simp)
              have s1 := cell_of_block hblk 1 (by simp)
              have s2 := cell_of_block hblk 2 (by simp)
              have s3 := cell_of_block hblk 3 (by simp)
              have s4 := cell_of_block hblk 4 (by simp)
              simp at s0 s1 s2 s3 s4
              have B5B := Lib.hid (thru hb5 HBW3.out)
              have S5 := Lib.hid (S3.out.trans (hb5.mono S3.out.size))
              have l5 := (Array.getElem?_eq_some_iff.1 hblk).1
              clear hblk hb5 ec0W3 ec1W3 ec2W3 ex0W3 ex1W3 ex2W3 ex3W3 ex4W3
              go_upto_region 18 with (fail)
              simp only [Act.put, List.setIfInBounds_toArray, List.set_cons_succ, List.set_cons_zero]
              go_wp2_with fail
              refine (Calls.grown (SG2'.out _ S5.out)).mono ?_
              rintro e w1 ⟨rfl, z7, rfl⟩
              go_wp2_with fail
              refine (Calls.grown (alive_any _)).mono ?_
              rintro e w1 ⟨rfl, z8, rfl⟩
              go_wp2_with fail
              go_ret
              exact ⟨rfl, ((B5B.out.gw z7).alloc (B5B.out.gw z7).size _).gw z8⟩
        · have e1 : weakR C x k F G tu least = 0 := by rw [w1]; exact if_neg hs
          have e2 : weakF C x k F G tu least = 12 := by rw [w2]; exact if_neg hs
          generalize weakS C x k F G (tu - x.day).toNat least = s at *
          rw [e1, e2] at WE'
          obtain ⟨d, hd⟩ : ∃ d, x.day + wh % (tu - x.day + 1) = d := ⟨_, rfl⟩
          have r0 := Int.emod_nonneg wh (show tu - x.day + 1 ≠ 0 by omega)
          have r1 := Int.emod_lt_of_pos wh (show 0 < tu - x.day + 1 by omega)
          obtain ⟨p1, p2⟩ := errH_day hE (show x.day ≤ d by omega) (show d ≤ tu by omega)
          have AT2 := fun W hb => AT'.out d W hb
          rw [p1, p2] at AT2
          have cv := (DC (d - x.day).toNat (by omega)).1
          have lv := ST (d - x.day).toNat (by omega)
          obtain ⟨v, hv⟩ : ∃ v, dayC C F G k x (d - x.day).toNat = v := ⟨_, rfl⟩
          rw [hv] at AT2 lv cv
          rw [← hd] at AT2
          have SG2 := fun W (hb : Below W1.heap.size W1 W) => Strength_ok v W cv
          generalize strLo v = A2 at *
          generalize strHi v = B2 at *
          unfold Cont.val at AT2 SG2
          have AT2' := Lib.hid AT2; clear AT2
          have SG2' := Lib.hid SG2; clear SG2
          clear p1 p2 cv ST DC hu SS w1 w2 e1 e2 h0
          have HV := Lib.hid hv; clear hv
          have HGG := Lib.hid (And.intro g1 (And.intro g2 g3)); clear g1 g2 g3 g6 hE
          have HD := Lib.hid hd; clear hd
          have nz : ¬ tu - x.day + 1 = 0 := by omega
          have n2 : 0 ≤ tu - x.day + 1 := by omega
          have HU2 := Lib.hid hu2; clear hu2
          go_wp2_with fail
          refine (Calls.gw_of (WE'.out _ (below_gw W1 z1))).mono ?_
          rintro e w1 ⟨rfl, z2, rfl⟩
          go_upto_region 15 with (fail)
          go_upto_region 15 with (fail)
          obtain ⟨W2, hW2⟩ : ∃ W2, gw W1 z2 = W2 := ⟨_, rfl⟩
          have hbW2 : Below W1.heap.size W1 W2 := by rw [← hW2]; exact below_gw W1 z2
          have ZcW2 := Lib.hid ((hbW2.block _ (Array.getElem?_eq_some_iff.1 Zc0.out).1).trans Zc0.out)
          have ZxW2 := Lib.hid ((hbW2.block _ (Array.getElem?_eq_some_iff.1 Zc1.out).1).trans Zc1.out)
          have HBW2 := Lib.hid (thru hbW2 HBc.out)
          have SBW2 := Lib.hid hbW2; clear hbW2
          have HWW2 := Lib.hid hW2; clear hW2
          rw [HWW2.out]
          clear c00 c01 c02 c10 c11 c12 c13 c14
          have S2 := Lib.hid SBW2.out
          have ec0W2 : W2.cell? ⟨w.heap.size, 0, none⟩ = some (.int .i64 C.days) := cell_of_block ZcW2.out 0 (by simp)
          have ec1W2 : W2.cell? ⟨w.heap.size, 1, none⟩ = some (.slice C.aA C.nA C.cA) := cell_of_block ZcW2.out 1 (by simp)
          have ec2W2 : W2.cell? ⟨w.heap.size, 2, none⟩ = some (.slice C.aW C.nW C.cW) := cell_of_block ZcW2.out 2 (by simp)
          have lcW2 := (Array.getElem?_eq_some_iff.1 ZcW2.out).1
          have ex0W2 : W2.cell? ⟨w.heap.size + 1, 0, none⟩ = some (.int .i64 x.day) := cell_of_block ZxW2.out 0 (by simp)
          have ex1W2 : W2.cell? ⟨w.heap.size + 1, 1, none⟩ = some (.int .i64 x.alo) := cell_of_block ZxW2.out 1 (by simp)
          have ex2W2 : W2.cell? ⟨w.heap.size + 1, 2, none⟩ = some (.int .i64 x.ahi) := cell_of_block ZxW2.out 2 (by simp)
          have ex3W2 : W2.cell? ⟨w.heap.size + 1, 3, none⟩ = some (.int .i64 x.wlo) := cell_of_block ZxW2.out 3 (by simp)
          have ex4W2 : W2.cell? ⟨w.heap.size + 1, 4, none⟩ = some (.int .i64 x.whi) := cell_of_block ZxW2.out 4 (by simp)
          have lxW2 := (Array.getElem?_eq_some_iff.1 ZxW2.out).1
          go_upto_region 17 with (fail)
          refine wp_region_box1 [true, true, true, true, true, true, true, true, true, true, true, true, true, true, true, true, true, true, false, false, true] 18 19 #[.int .i64 0, .int .i64 0, .int .i64 0, .int .i64 0, .int .i64 0] #[.int .i64 v.day, .int .i64 v.alo, .int .i64 v.ahi, .int .i64 v.wlo, .int .i64 v.whi] (by kernel_rfl) rfl rfl rfl (by kernel_rfl) rfl (by kernel_rfl) infoCont rfl rfl (by simp [Value.oneCell']) ?_
          apply Exists.intro
          refine ⟨fun S hS hx => ?_, ?_, ?_⟩
          · obtain ⟨x0, hx0⟩ := hx
            haveI : Nonempty (GrewS W2 S) := ⟨⟨x0, hx0⟩⟩
            simp only [pickM]
            repeat (go_big_quiet_step ((go_at_call 17; with_reducible exact Calls.gwS hS (AT2'.out _ (S2.out.trans ((below_gw W2 _).mono S2.out.size))))))
            exact wpQuiet_nil rfl
          · rfl
          · intro B5 w5 hBw hblk hb5
            have s0 := cell_of_block hblk 0 (by simp)
            have s1 := cell_of_block hblk 1 (by simp)
            have s2 := cell_of_block hblk 2 (by simp)
            have s3 := cell_of_block hblk 3 (by simp)
            have s4 := cell_of_block hblk 4 (by simp)
            simp at s0 s1 s2 s3 s4
            have B5B := Lib.hid (thru hb5 HBW2.out)
            have S5 := Lib.hid (S2.out.trans (hb5.mono S2.out.size))
            have l5 := (Array.getElem?_eq_some_iff.1 hblk).1
            clear hblk hb5 ec0W2 ec1W2 ec2W2 ex0W2 ex1W2 ex2W2 ex3W2 ex4W2
            go_upto_region 18 with (fail)
            simp only [Act.put, List.setIfInBounds_toArray, List.set_cons_succ, List.set_cons_zero]
            go_wp2_with fail
            refine (Calls.grown (SG2'.out _ S5.out)).mono ?_
            rintro e w1 ⟨rfl, z7, rfl⟩
            go_wp2_with fail
            refine (Calls.grown (alive_any _)).mono ?_
            rintro e w1 ⟨rfl, z8, rfl⟩
            go_wp2_with fail
            go_ret
            exact ⟨rfl, ((B5B.out.gw z7).alloc (B5B.out.gw z7).size _).gw z8⟩
      · have n12 := weakErr_12 (C := C) (x := x) (k := k) (F := F) (G := G) (tu := tu) (least := least)
        have w1 : weakR C x k F G tu least = 0 := if_neg h0
        have w2 : weakF C x k F G tu least = weakErr C x k F G tu least := if_neg h0
        rw [w1, w2] at WE'
        clear w1 w2 AT'
        generalize weakErr C x k F G tu least = E at *
        have ne : (E != 0) = true := by simpa using h0
        have ne2 : (E != 12) = true := by simpa using n12
        clear h0 n12
        go_wp2_with fail
        refine (Calls.gw_of (WE'.out _ (below_gw W1 z1))).mono ?_
        rintro e w1 ⟨rfl, z2, rfl⟩
        go_wp2_with fail
        refine (Calls.gw_of (alive_any _)).mono ?_
        rintro e w1 ⟨rfl, z3, rfl⟩
        go_wp2_with fail
        go_ret
        exact ⟨rfl, HBc.out.gw z3⟩
end Go.Proofs.Ytljofnmgddfljaa
