/- HouseTrue walked: it returns true. No conditions beyond each theorem's own. -/
import Derived.Test.YtljofnmgddfljaaFb
import Derived.Test.YtljofnmgddfljaaCb
set_option linter.unusedVariables false
set_option linter.unusedSimpArgs false
set_option linter.unusedSectionVars false
set_option linter.constructorNameAsVariable false
namespace Go.Proofs.Ytljofnmgddfljaa
open Go.RowKit

attribute [local go_sem] gw_cell gw_frozen gw_size

theorem dayC_hi {C : Clim} {x : Cont} {k : Nat} {F G : Nat → Int} (hB : climB C = true) (hst : staysB C.nA k F G = true) (hx : contB x = true) : ∀ j : Nat, x.day + j ≤ 65536 → (dayC C F G k x j).ahi ≤ x.ahi ∧ (dayC C F G k x j).whi ≤ x.whi
  | 0, _ => ⟨Int.le_refl _, Int.le_refl _⟩
  | j + 1, h => by
    obtain ⟨i1, i2⟩ := dayC_hi hB hst hx j (by omega)
    obtain ⟨oy, -⟩ := dayC_ok hB hst hx j (by omega)
    obtain ⟨-, ⟨a1, a2⟩, nw, ⟨b1, b2⟩, ra, rw'⟩ := climB_t hB
    obtain ⟨_, ⟨x0, x1, _⟩, x3, x4, _⟩ := contB_t oy
    show ((dayC C F G k x j).next C F G k).ahi ≤ _ ∧ ((dayC C F G k x j).next C F G k).whi ≤ _
    generalize dayC C F G k x j = y at *
    have hf := (floorOf_lt hst a1 y.day).1
    have hs := seasonOf_lt (C := C) (day := y.day) (by omega)
    obtain ⟨p1, p2, p3⟩ := (ra _ hf).2 _ hs
    obtain ⟨q1, q2, q3⟩ := (rw' _ hf).2 _ hs
    have A := (leftHi_range (hi := y.ahi) (by omega) p1 (by omega)).2
    have B := (leftHi_range (hi := y.whi) (by omega) q1 (by omega)).2
    unfold Cont.next
    exact ⟨Int.le_trans A i1, Int.le_trans B i2⟩
/-- the true strength is within the strength -/
theorem str_truly {y : Cont} {a t : Int} (hy : contB y = true) (h : Truly y a t) : (0 ≤ strLo y ∧ strLo y ≤ 10000) ∧ (0 ≤ strHi y ∧ strHi y ≤ 10000) ∧ strLo y * (a + t) ≤ 10000 * a ∧ 10000 * a ≤ strHi y * (a + t) := by
  obtain ⟨-, ⟨x0, x1, x2⟩, x3, x4, x5⟩ := contB_t hy
  obtain ⟨t0, t1, t2, t3⟩ := h
  have L : (0 ≤ strLo y ∧ strLo y ≤ 10000) ∧ strLo y * (y.alo + y.whi) ≤ 10000 * y.alo := by
    unfold strLo
    split
    · rename_i hp
      have q0 : 0 ≤ y.alo * 10000 / (y.alo + y.whi) := Int.ediv_nonneg (by omega) (by omega)
      have q1 := Int.ediv_mul_le (y.alo * 10000) (show y.alo + y.whi ≠ 0 by omega)
      have q2 : y.alo * 10000 / (y.alo + y.whi) ≤ 10000 := by
        have q3 := Int.ediv_le_ediv (show 0 < y.alo + y.whi by omega) (show y.alo * 10000 ≤ 10000 * (y.alo + y.whi) by rw [Int.mul_add]; omega)
        rw [Int.mul_ediv_cancel _ (by omega)] at q3
        exact q3
      rw [Int.mul_comm 10000 y.alo]
      exact ⟨⟨q0, q2⟩, q1⟩
    · omega
  have U : (0 ≤ strHi y ∧ strHi y ≤ 10000) ∧ 10000 * y.ahi ≤ strHi y * (y.ahi + y.wlo) := by
    unfold strHi
    split
    · rename_i hp
      have q0 : 0 ≤ upI (y.ahi * 10000) (y.ahi + y.wlo) := upI_nonneg (by omega) (by omega)
      have q1 := le_upI (a := y.ahi * 10000) (show 1 ≤ y.ahi + y.wlo by omega)
      have q2 : upI (y.ahi * 10000) (y.ahi + y.wlo) ≤ 10000 := upI_le (by omega) (by rw [Int.mul_add]; omega)
      rw [Int.mul_comm 10000 y.ahi]
      exact ⟨⟨q0, q2⟩, q1⟩
    · omega
  obtain ⟨⟨l0, l1⟩, l2⟩ := L
  obtain ⟨⟨u0, u1⟩, u2⟩ := U
  refine ⟨⟨l0, l1⟩, ⟨u0, u1⟩, ?_, ?_⟩
  · have m1 := Int.mul_le_mul_of_nonneg_left t3 l0
    have m2 := Int.mul_le_mul_of_nonneg_right l1 (show 0 ≤ a - y.alo by omega)
    have e1 : strLo y * (a + t) = strLo y * y.alo + strLo y * (a - y.alo) + strLo y * t := by rw [← Int.mul_add, ← Int.mul_add]; congr 1; omega
    have e2 : strLo y * (y.alo + y.whi) = strLo y * y.alo + strLo y * y.whi := Int.mul_add _ _ _
    omega
  · have m1 := Int.mul_le_mul_of_nonneg_left t2 u0
    have m2 := Int.mul_le_mul_of_nonneg_right u1 (show 0 ≤ y.ahi - a by omega)
    have e1 : strHi y * (y.ahi + y.wlo) = strHi y * (a + y.wlo) + strHi y * (y.ahi - a) := by rw [← Int.mul_add]; congr 1; omega
    have e2 : strHi y * (a + y.wlo) = strHi y * a + strHi y * y.wlo := Int.mul_add _ _ _
    have e3 : strHi y * (a + t) = strHi y * a + strHi y * t := Int.mul_add _ _ _
    omega

set_option maxRecDepth 100000 in
set_option maxHeartbeats 8000000 in
theorem true_any (C : Clim) (x : Cont) (aS aB : Option Addr) (k cS nb cB : Nat) (F G U : Nat → Int) (day : Int) (w : World) (hC : C.In w) (hl : Lens C k) (hS : SpansAt w aS k F G) (hU : NumsAt .u32 w aB nb U) (hr : ∀ i, i < nb → 0 ≤ U i ∧ U i ≤ 4294967295) (hn2 : nb ≤ 9223372036854775807) :
    Calls Try.prog 7 #[.agg #[.int .i64 C.days, .slice C.aA C.nA C.cA, .slice C.aW C.nW C.cW], x.val, .slice aS k cS, .int .i64 day, .slice aB nb cB] w (True1 w) := by
  unfold Cont.val
  obtain ⟨W1, hW1⟩ : ∃ W1, ((w.alloc (.cells #[.int .i64 C.days, .slice C.aA C.nA C.cA, .slice C.aW C.nW C.cW] 24)).alloc (.cells #[.int .i64 x.day, .int .i64 x.alo, .int .i64 x.ahi, .int .i64 x.wlo, .int .i64 x.whi] 28)).alloc (.cells #[.int .i64 day] 3) = W1 := ⟨_, rfl⟩
  have hBc : Below w.heap.size w W1 := by rw [← hW1]; exact ((below_alloc _ _).alloc (by simp) _).alloc (by simp <;> omega) _
  have zc0 : W1.heap[w.heap.size]? = some (.cells #[.int .i64 C.days, .slice C.aA C.nA C.cA, .slice C.aW C.nW C.cW] 24 (0, 0)) := by rw [← hW1]; exact alloc_keep (alloc_keep (alloc_at rfl))
  have zc1 : W1.heap[w.heap.size + 1]? = some (.cells #[.int .i64 x.day, .int .i64 x.alo, .int .i64 x.ahi, .int .i64 x.wlo, .int .i64 x.whi] 28 (0, 0)) := by rw [← hW1]; exact alloc_keep (alloc_at (by simp))
  have zc2 : W1.heap[w.heap.size + 1 + 1]? = some (.cells #[.int .i64 day] 3 (0, 0)) := by rw [← hW1]; exact alloc_at (by simp <;> omega)
  have c00 : W1.cell? ⟨w.heap.size, 0, none⟩ = some (.int .i64 C.days) := cell_of_block zc0 0 (by simp)
  have c01 : W1.cell? ⟨w.heap.size, 1, none⟩ = some (.slice C.aA C.nA C.cA) := cell_of_block zc0 1 (by simp)
  have c02 : W1.cell? ⟨w.heap.size, 2, none⟩ = some (.slice C.aW C.nW C.cW) := cell_of_block zc0 2 (by simp)
  have c10 : W1.cell? ⟨w.heap.size + 1, 0, none⟩ = some (.int .i64 x.day) := cell_of_block zc1 0 (by simp)
  have c11 : W1.cell? ⟨w.heap.size + 1, 1, none⟩ = some (.int .i64 x.alo) := cell_of_block zc1 1 (by simp)
  have c12 : W1.cell? ⟨w.heap.size + 1, 2, none⟩ = some (.int .i64 x.ahi) := cell_of_block zc1 2 (by simp)
  have c13 : W1.cell? ⟨w.heap.size + 1, 3, none⟩ = some (.int .i64 x.wlo) := cell_of_block zc1 3 (by simp)
  have c14 : W1.cell? ⟨w.heap.size + 1, 4, none⟩ = some (.int .i64 x.whi) := cell_of_block zc1 4 (by simp)
  have c20 : W1.cell? ⟨w.heap.size + 1 + 1, 0, none⟩ = some (.int .i64 day) := cell_of_block zc2 0 (by simp)
  have lc0 := (Array.getElem?_eq_some_iff.1 zc0).1
  have lc1 := (Array.getElem?_eq_some_iff.1 zc1).1
  have lc2 := (Array.getElem?_eq_some_iff.1 zc2).1
  have Zc0 := Lib.hid zc0
  have Zc1 := Lib.hid zc1
  clear zc0 zc1 zc2
  have HBc := Lib.hid hBc; clear hBc
  have HWc := Lib.hid hW1; clear hW1
  have GR := great_any C x aS k cS (some ⟨w.heap.size + 1 + 1, 0, none⟩) 1 1 (fun _ => day) W1 (hC.below HBc.out) hl (ints_one lc2 c20) (by omega)
  have HC := Lib.hid (hC.below HBc.out); clear hC
  have HS := Lib.hid (hS.below HBc.out); clear hS
  have HU := Lib.hid (hU.below HBc.out); clear hU
  have HR := Lib.hid hr; clear hr
  unfold Cont.val at GR
  have GR' := Lib.hid GR; clear GR c20
  go_enter Try.func7, Try.ntmps7
  go_wp2_with fail
  rw [HWc.out]
  go_wp2_with fail
  refine GR'.out.mono ?_
  rintro e w1 ⟨b, rfl, hg, hb⟩
  obtain ⟨z1, rfl⟩ := gw_of_below hb
  clear hb
  cases b with
  | true =>
    clear hg
    go_wp2_with fail
    refine (Calls.gw_of (alive_any _)).mono ?_
    rintro e w1 ⟨rfl, z2, rfl⟩
    go_wp2_with fail
    go_ret
    exact ⟨rfl, HBc.out.gw z2⟩
  | false =>
    have gd := hg rfl
    have hk : k ≤ 1000000000000000 := by have := gd.st; omega
    have AT := fun W (hb : Below W1.heap.size W1 W) => At_any C x aS k cS F G day W (HC.out.below hb) gd.fits hk (HS.out.below hb)
    have HGD := Lib.hid (And.intro gd.fits hk)
    clear hg gd hk
    obtain ⟨u, hu⟩ : ∃ u, IntKind.i64.wrap (day - x.day) = u := ⟨_, rfl⟩
    by_cases hu4 : 400 < u
    · clear AT
      go_wp2_with fail
      refine (Calls.gw_of (alive_any _)).mono ?_
      rintro e w1 ⟨rfl, z2, rfl⟩
      go_wp2_with fail
      go_ret
      exact ⟨rfl, HBc.out.gw z2⟩
    · by_cases hn : nb = 0
      · clear AT
        have e1 : ((nb : Int) == 0) = true := by simp; omega
        go_wp2_with fail
        refine (Calls.gw_of (alive_any _)).mono ?_
        rintro e w1 ⟨rfl, z2, rfl⟩
        go_wp2_with fail
        go_ret
        exact ⟨rfl, HBc.out.gw z2⟩
      · obtain ⟨n, rfl⟩ : ∃ n, nb = n + 1 := ⟨nb - 1, by omega⟩
        have e1 : (((n : Int) + 1) == 0) = false := by simp; omega
        by_cases h0 : errH C x k F G day = 0
        · obtain ⟨g1, g2, g3, g4, g5, g6⟩ := errH_zero h0
          obtain ⟨⟨xd0, xd1⟩, ⟨xa0, xa1, xa2⟩, xw0, xw1, xw2⟩ := contB_t g2
          rw [h0, atV_ok h0] at AT
          have DH := dayC_hi g1 g3 g2 (day - x.day).toNat (by omega)
          have DO := dayC_ok g1 g3 g2 (day - x.day).toNat (by omega)
          rcases HU.out with h1 | ⟨ub, uo, rfl, ul, uc⟩
          · omega
          have U1 := uc 0 (by omega)
          have U2 := uc n (by omega)
          rw [Nat.add_zero] at U1
          clear uc
          have R1 := HR.out 0 (by omega)
          have R2 := HR.out n (by omega)
          have ir1 := innerI_range (b := U 0) xa1
          have ir2 := innerI_range (b := U n) xw1
          have LV := fun W (hb : Below W1.heap.size W1 W) => live_any C x aS (some ⟨ub, uo, none⟩) k cS (n + 1) cB F G U day (innerI x.alo x.ahi (U 0)) (innerI x.wlo x.whi (U n)) W (HC.out.below hb) (HS.out.below hb) (HU.out.below hb) HR.out (by omega) hn2 g1 g2 g3 g4 g5 ⟨ir1.1, ir1.2, ir2.1, ir2.2⟩
          have LT := fun a t => liveS_truly (U := U) (nb := n + 1) g1 g3 g2 (a0 := innerI x.alo x.ahi (U 0)) (w0 := innerI x.wlo x.whi (U n)) ⟨ir1.1, ir1.2, ir2.1, ir2.2⟩ (day - x.day).toNat a t (by omega)
          have I1 := fun W => inner_one x.alo x.ahi (U 0) W (by omega) xa1 (by omega) R1.1 R1.2
          have I2 := fun W => inner_one x.wlo x.whi (U n) W (by omega) xw1 (by omega) R2.1 R2.2
          have CLI := fun W (hb : Below W1.heap.size W1 W) => rClimate_b C W (HC.out.below hb) HGD.out.1 g1
          have CON := fun W (hb : Below W1.heap.size W1 W) => rContent_b x W g2
          have STA := fun W (hb : Below W1.heap.size W1 W) => rStays_b C aS k cS F G W HGD.out.1 HGD.out.2 (HS.out.below hb) g3
          have HGG := Lib.hid (And.intro g1 (And.intro g2 g3)); clear g1 g2 g3 g6 h0
          generalize innerI x.alo x.ahi (U 0) = i1 at *
          generalize innerI x.wlo x.whi (U n) = i2 at *
          generalize U 0 = ua at *
          generalize liveS C F G U k (n + 1) x.day i1 i2 (day - x.day).toNat = lv at *
          generalize dayC C F G k x (day - x.day).toNat = y at *
          generalize U n = ub' at *
          unfold Cont.val at AT
          have AT' := Lib.hid AT; clear AT
          have I1' := Lib.hid I1; clear I1
          have I2' := Lib.hid I2; clear I2
          have CLI' := Lib.hid CLI; clear CLI
          have CON' := Lib.hid CON; clear CON
          have STA' := Lib.hid STA; clear STA
          have g4' : ¬ day < x.day := by omega
          clear ir1 ir2
          cases lv with
          | none =>
            clear DH DO LT
            simp only [liveO] at LV
            have LV' := Lib.hid LV; clear LV
            go_wp2_with fail
            refine (Calls.gw_of (AT'.out _ (below_gw W1 z1))).mono ?_
            rintro e w1 ⟨rfl, z2, rfl⟩
            go_upto_region 4 with (fail)
            obtain ⟨W2, hW2⟩ : ∃ W2, ((gw W1 z2)).alloc (.cells #[.int .i64 y.day, .int .i64 y.alo, .int .i64 y.ahi, .int .i64 y.wlo, .int .i64 y.whi] 28) = W2 := ⟨_, rfl⟩
            have hbW2 : Below W1.heap.size W1 W2 := by rw [← hW2]; exact (below_gw W1 z2).alloc (by simp [gw_size]) _
            have ZcW2 := Lib.hid ((hbW2.block _ (Array.getElem?_eq_some_iff.1 Zc0.out).1).trans Zc0.out)
            have ZxW2 := Lib.hid ((hbW2.block _ (Array.getElem?_eq_some_iff.1 Zc1.out).1).trans Zc1.out)
            have zyW2 : W2.heap[W1.heap.size + z2.bs.size]? = some (.cells #[.int .i64 y.day, .int .i64 y.alo, .int .i64 y.ahi, .int .i64 y.wlo, .int .i64 y.whi] 28 (0, 0)) := by rw [← hW2]; exact alloc_at (by simp [gw_size])
            have ZyW2 := Lib.hid zyW2; clear zyW2
            have HBW2 := Lib.hid (thru hbW2 HBc.out)
            have SBW2 := Lib.hid hbW2; clear hbW2
            have HWW2 := Lib.hid hW2; clear hW2
            rw [HWW2.out]
            clear c00 c01 c02 c10 c11 c12 c13 c14
            have S2 := Lib.hid SBW2.out
            have ec0W2 : W2.cell? ⟨w.heap.size, 0, none⟩ = some (.int .i64 C.days) := cell_of_block ZcW2.out 0 (by simp)
            have ec1W2 : W2.cell? ⟨w.heap.size, 1, none⟩ = some (.slice C.aA C.nA C.cA) := cell_of_block ZcW2.out 1 (by simp)
            have ec2W2 : W2.cell? ⟨w.heap.size, 2, none⟩ = some (.slice C.aW C.nW C.cW) := cell_of_block ZcW2.out 2 (by simp)
            have lcW2 := (Array.getElem?_eq_some_iff.1 ZcW2.out).1
            have ex0W2 : W2.cell? ⟨w.heap.size + 1, 0, none⟩ = some (.int .i64 x.day) := cell_of_block ZxW2.out 0 (by simp)
            have ex1W2 : W2.cell? ⟨w.heap.size + 1, 1, none⟩ = some (.int .i64 x.alo) := cell_of_block ZxW2.out 1 (by simp)
            have ex2W2 : W2.cell? ⟨w.heap.size + 1, 2, none⟩ = some (.int .i64 x.ahi) := cell_of_block ZxW2.out 2 (by simp)
            have ex3W2 : W2.cell? ⟨w.heap.size + 1, 3, none⟩ = some (.int .i64 x.wlo) := cell_of_block ZxW2.out 3 (by simp)
            have ex4W2 : W2.cell? ⟨w.heap.size + 1, 4, none⟩ = some (.int .i64 x.whi) := cell_of_block ZxW2.out 4 (by simp)
            have lxW2 := (Array.getElem?_eq_some_iff.1 ZxW2.out).1
            go_wp2_with fail
            refine (Calls.grown (CLI'.out _ (S2.out))).mono ?_
            rintro e w1 ⟨rfl, z3, rfl⟩
            go_wp2_with fail
            refine (Calls.gw_of (CON'.out _ (S2.out.trans ((below_gw W2 z3).mono S2.out.size)))).mono ?_
            rintro e w1 ⟨rfl, z4, rfl⟩
            go_wp2_with fail
            refine (Calls.gw_of (STA'.out _ (S2.out.trans ((below_gw W2 z4).mono S2.out.size)))).mono ?_
            rintro e w1 ⟨rfl, z5, rfl⟩
            go_upto_region 8 with (fail)
            obtain ⟨W3, hW3⟩ : ∃ W3, gw W2 z5 = W3 := ⟨_, rfl⟩
            have hbW3 : Below W2.heap.size W2 W3 := by rw [← hW3]; exact below_gw W2 z5
            have ZcW3 := Lib.hid ((hbW3.block _ (Array.getElem?_eq_some_iff.1 ZcW2.out).1).trans ZcW2.out)
            have ZxW3 := Lib.hid ((hbW3.block _ (Array.getElem?_eq_some_iff.1 ZxW2.out).1).trans ZxW2.out)
            have ZyW3 := Lib.hid ((hbW3.block _ (Array.getElem?_eq_some_iff.1 ZyW2.out).1).trans ZyW2.out)
            have HBW3 := Lib.hid (thru hbW3 HBW2.out)
            have SBW3 := Lib.hid hbW3; clear hbW3
            have HWW3 := Lib.hid hW3; clear hW3
            rw [HWW3.out]
            clear ec0W2 ec1W2 ec2W2 ex0W2 ex1W2 ex2W2 ex3W2 ex4W2
            have S3 := Lib.hid (S2.out.trans (SBW3.out.mono S2.out.size))
            have ec0W3 : W3.cell? ⟨w.heap.size, 0, none⟩ = some (.int .i64 C.days) := cell_of_block ZcW3.out 0 (by simp)
            have ec1W3 : W3.cell? ⟨w.heap.size, 1, none⟩ = some (.slice C.aA C.nA C.cA) := cell_of_block ZcW3.out 1 (by simp)
            have ec2W3 : W3.cell? ⟨w.heap.size, 2, none⟩ = some (.slice C.aW C.nW C.cW) := cell_of_block ZcW3.out 2 (by simp)
            have lcW3 := (Array.getElem?_eq_some_iff.1 ZcW3.out).1
            have ex0W3 : W3.cell? ⟨w.heap.size + 1, 0, none⟩ = some (.int .i64 x.day) := cell_of_block ZxW3.out 0 (by simp)
            have ex1W3 : W3.cell? ⟨w.heap.size + 1, 1, none⟩ = some (.int .i64 x.alo) := cell_of_block ZxW3.out 1 (by simp)
            have ex2W3 : W3.cell? ⟨w.heap.size + 1, 2, none⟩ = some (.int .i64 x.ahi) := cell_of_block ZxW3.out 2 (by simp)
            have ex3W3 : W3.cell? ⟨w.heap.size + 1, 3, none⟩ = some (.int .i64 x.wlo) := cell_of_block ZxW3.out 3 (by simp)
            have ex4W3 : W3.cell? ⟨w.heap.size + 1, 4, none⟩ = some (.int .i64 x.whi) := cell_of_block ZxW3.out 4 (by simp)
            have lxW3 := (Array.getElem?_eq_some_iff.1 ZxW3.out).1
            have U1W := below_cell S3.out U1
            have U2W := below_cell S3.out U2
            have ulW := Nat.lt_of_lt_of_le ul S3.out.size
            clear U1 U2
            refine wp_region_gw (by kernel_rfl) (by kernel_rfl) ?_
            repeat (go_big_quiet_step (first | (go_at_call 20; first | (with_reducible exact Calls.gw_of (I1'.out _)) | (with_reducible exact Calls.gw_of (I2'.out _))) | (go_at_call 28; with_reducible exact Calls.gw_of (LV'.out _ (S3.out.trans ((below_gw W3 _).mono S3.out.size))))))
            refine wpQuiet_nil ?_
            rintro _ ⟨z7, rfl⟩
            go_wp2_with fail
            refine (Calls.gw_of (alive_any _)).mono ?_
            rintro e w1 ⟨rfl, z8, rfl⟩
            go_wp2_with fail
            go_ret
            exact ⟨rfl, HBW3.out.gw z8⟩
          | some p =>
            obtain ⟨a, t⟩ := p
            have TR := LT a t rfl
            obtain ⟨⟨l0, l1⟩, ⟨l2, l3⟩, l4, l5⟩ := str_truly DO.1 TR
            have SG := fun W (hb : Below W1.heap.size W1 W) => Strength_ok y W DO.1
            obtain ⟨_, ⟨y0, y1, y2⟩, y3, y4, y5⟩ := contB_t DO.1
            obtain ⟨t0, t1, t2, t3⟩ := TR
            have dy : y.day = day := by have := DO.2; omega
            obtain ⟨d1, d2⟩ := DH
            generalize strLo y = A at *
            generalize strHi y = B at *
            have m1 : 0 ≤ A * (a + t) := Int.mul_nonneg l0 (by omega)
            have m2 : B * (a + t) ≤ 10000 * 4294967296 := Int.mul_le_mul l3 (by omega) (by omega) (by omega)
            have m3 : 0 ≤ B * (a + t) := Int.mul_nonneg l2 (by omega)
            clear LT DO
            simp only [liveO] at LV
            unfold Cont.val at SG
            have LV' := Lib.hid LV; clear LV
            have SG' := Lib.hid SG; clear SG
            have hd1 : ¬ x.ahi < y.ahi := by omega
            have hd2 : ¬ x.whi < y.whi := by omega
            have hd3 : (y.day != day) = false := by simp [dy]
            clear dy
            go_wp2_with fail
            refine (Calls.gw_of (AT'.out _ (below_gw W1 z1))).mono ?_
            rintro e w1 ⟨rfl, z2, rfl⟩
            go_upto_region 4 with (fail)
            obtain ⟨W2, hW2⟩ : ∃ W2, ((gw W1 z2)).alloc (.cells #[.int .i64 y.day, .int .i64 y.alo, .int .i64 y.ahi, .int .i64 y.wlo, .int .i64 y.whi] 28) = W2 := ⟨_, rfl⟩
            have hbW2 : Below W1.heap.size W1 W2 := by rw [← hW2]; exact (below_gw W1 z2).alloc (by simp [gw_size]) _
            have ZcW2 := Lib.hid ((hbW2.block _ (Array.getElem?_eq_some_iff.1 Zc0.out).1).trans Zc0.out)
            have ZxW2 := Lib.hid ((hbW2.block _ (Array.getElem?_eq_some_iff.1 Zc1.out).1).trans Zc1.out)
            have zyW2 : W2.heap[W1.heap.size + z2.bs.size]? = some (.cells #[.int .i64 y.day, .int .i64 y.alo, .int .i64 y.ahi, .int .i64 y.wlo, .int .i64 y.whi] 28 (0, 0)) := by rw [← hW2]; exact alloc_at (by simp [gw_size])
            have ZyW2 := Lib.hid zyW2; clear zyW2
            have HBW2 := Lib.hid (thru hbW2 HBc.out)
            have SBW2 := Lib.hid hbW2; clear hbW2
            have HWW2 := Lib.hid hW2; clear hW2
            rw [HWW2.out]
            clear c00 c01 c02 c10 c11 c12 c13 c14
            have S2 := Lib.hid SBW2.out
            have ec0W2 : W2.cell? ⟨w.heap.size, 0, none⟩ = some (.int .i64 C.days) := cell_of_block ZcW2.out 0 (by simp)
            have ec1W2 : W2.cell? ⟨w.heap.size, 1, none⟩ = some (.slice C.aA C.nA C.cA) := cell_of_block ZcW2.out 1 (by simp)
            have ec2W2 : W2.cell? ⟨w.heap.size, 2, none⟩ = some (.slice C.aW C.nW C.cW) := cell_of_block ZcW2.out 2 (by simp)
            have lcW2 := (Array.getElem?_eq_some_iff.1 ZcW2.out).1
            have ex0W2 : W2.cell? ⟨w.heap.size + 1, 0, none⟩ = some (.int .i64 x.day) := cell_of_block ZxW2.out 0 (by simp)
            have ex1W2 : W2.cell? ⟨w.heap.size + 1, 1, none⟩ = some (.int .i64 x.alo) := cell_of_block ZxW2.out 1 (by simp)
            have ex2W2 : W2.cell? ⟨w.heap.size + 1, 2, none⟩ = some (.int .i64 x.ahi) := cell_of_block ZxW2.out 2 (by simp)
            have ex3W2 : W2.cell? ⟨w.heap.size + 1, 3, none⟩ = some (.int .i64 x.wlo) := cell_of_block ZxW2.out 3 (by simp)
            have ex4W2 : W2.cell? ⟨w.heap.size + 1, 4, none⟩ = some (.int .i64 x.whi) := cell_of_block ZxW2.out 4 (by simp)
            have lxW2 := (Array.getElem?_eq_some_iff.1 ZxW2.out).1
            go_wp2_with fail
            refine (Calls.grown (CLI'.out _ (S2.out))).mono ?_
            rintro e w1 ⟨rfl, z3, rfl⟩
            go_wp2_with fail
            refine (Calls.gw_of (CON'.out _ (S2.out.trans ((below_gw W2 z3).mono S2.out.size)))).mono ?_
            rintro e w1 ⟨rfl, z4, rfl⟩
            go_wp2_with fail
            refine (Calls.gw_of (STA'.out _ (S2.out.trans ((below_gw W2 z4).mono S2.out.size)))).mono ?_
            rintro e w1 ⟨rfl, z5, rfl⟩
            go_upto_region 8 with (fail)
            obtain ⟨W3, hW3⟩ : ∃ W3, gw W2 z5 = W3 := ⟨_, rfl⟩
            have hbW3 : Below W2.heap.size W2 W3 := by rw [← hW3]; exact below_gw W2 z5
            have ZcW3 := Lib.hid ((hbW3.block _ (Array.getElem?_eq_some_iff.1 ZcW2.out).1).trans ZcW2.out)
            have ZxW3 := Lib.hid ((hbW3.block _ (Array.getElem?_eq_some_iff.1 ZxW2.out).1).trans ZxW2.out)
            have ZyW3 := Lib.hid ((hbW3.block _ (Array.getElem?_eq_some_iff.1 ZyW2.out).1).trans ZyW2.out)
            have HBW3 := Lib.hid (thru hbW3 HBW2.out)
            have SBW3 := Lib.hid hbW3; clear hbW3
            have HWW3 := Lib.hid hW3; clear hW3
            rw [HWW3.out]
            clear ec0W2 ec1W2 ec2W2 ex0W2 ex1W2 ex2W2 ex3W2 ex4W2
            have S3 := Lib.hid (S2.out.trans (SBW3.out.mono S2.out.size))
            have ec0W3 : W3.cell? ⟨w.heap.size, 0, none⟩ = some (.int .i64 C.days) := cell_of_block ZcW3.out 0 (by simp)
            have ec1W3 : W3.cell? ⟨w.heap.size, 1, none⟩ = some (.slice C.aA C.nA C.cA) := cell_of_block ZcW3.out 1 (by simp)
            have ec2W3 : W3.cell? ⟨w.heap.size, 2, none⟩ = some (.slice C.aW C.nW C.cW) := cell_of_block ZcW3.out 2 (by simp)
            have lcW3 := (Array.getElem?_eq_some_iff.1 ZcW3.out).1
            have ex0W3 : W3.cell? ⟨w.heap.size + 1, 0, none⟩ = some (.int .i64 x.day) := cell_of_block ZxW3.out 0 (by simp)
            have ex1W3 : W3.cell? ⟨w.heap.size + 1, 1, none⟩ = some (.int .i64 x.alo) := cell_of_block ZxW3.out 1 (by simp)
            have ex2W3 : W3.cell? ⟨w.heap.size + 1, 2, none⟩ = some (.int .i64 x.ahi) := cell_of_block ZxW3.out 2 (by simp)
            have ex3W3 : W3.cell? ⟨w.heap.size + 1, 3, none⟩ = some (.int .i64 x.wlo) := cell_of_block ZxW3.out 3 (by simp)
            have ex4W3 : W3.cell? ⟨w.heap.size + 1, 4, none⟩ = some (.int .i64 x.whi) := cell_of_block ZxW3.out 4 (by simp)
            have lxW3 := (Array.getElem?_eq_some_iff.1 ZxW3.out).1
            have U1W := below_cell S3.out U1
            have U2W := below_cell S3.out U2
            have ulW := Nat.lt_of_lt_of_le ul S3.out.size
            clear U1 U2
            refine wp_region_gw (by kernel_rfl) (by kernel_rfl) ?_
            repeat (go_big_quiet_step (first | (go_at_call 20; first | (with_reducible exact Calls.gw_of (I1'.out _)) | (with_reducible exact Calls.gw_of (I2'.out _))) | (go_at_call 28; with_reducible exact Calls.gw_of (LV'.out _ (S3.out.trans ((below_gw W3 _).mono S3.out.size))))))
            refine wpQuiet_nil ?_
            rintro _ ⟨z7, rfl⟩
            go_upto_region 11 with (fail)
            obtain ⟨W4, hW4⟩ : ∃ W4, gw W3 z7 = W4 := ⟨_, rfl⟩
            have hbW4 : Below W3.heap.size W3 W4 := by rw [← hW4]; exact below_gw W3 z7
            have ZcW4 := Lib.hid ((hbW4.block _ (Array.getElem?_eq_some_iff.1 ZcW3.out).1).trans ZcW3.out)
            have ZxW4 := Lib.hid ((hbW4.block _ (Array.getElem?_eq_some_iff.1 ZxW3.out).1).trans ZxW3.out)
            have ZyW4 := Lib.hid ((hbW4.block _ (Array.getElem?_eq_some_iff.1 ZyW3.out).1).trans ZyW3.out)
            have HBW4 := Lib.hid (thru hbW4 HBW3.out)
            have SBW4 := Lib.hid hbW4; clear hbW4
            have HWW4 := Lib.hid hW4; clear hW4
            rw [HWW4.out]
            clear ec0W3 ec1W3 ec2W3 ex0W3 ex1W3 ex2W3 ex3W3 ex4W3 U1W U2W
            have S4 := Lib.hid (S3.out.trans (SBW4.out.mono S3.out.size))
            have ey0W4 : W4.cell? ⟨W1.heap.size + z2.bs.size, 0, none⟩ = some (.int .i64 y.day) := cell_of_block ZyW4.out 0 (by simp)
            have ey1W4 : W4.cell? ⟨W1.heap.size + z2.bs.size, 1, none⟩ = some (.int .i64 y.alo) := cell_of_block ZyW4.out 1 (by simp)
            have ey2W4 : W4.cell? ⟨W1.heap.size + z2.bs.size, 2, none⟩ = some (.int .i64 y.ahi) := cell_of_block ZyW4.out 2 (by simp)
            have ey3W4 : W4.cell? ⟨W1.heap.size + z2.bs.size, 3, none⟩ = some (.int .i64 y.wlo) := cell_of_block ZyW4.out 3 (by simp)
            have ey4W4 : W4.cell? ⟨W1.heap.size + z2.bs.size, 4, none⟩ = some (.int .i64 y.whi) := cell_of_block ZyW4.out 4 (by simp)
            have lyW4 := (Array.getElem?_eq_some_iff.1 ZyW4.out).1
            go_wp2_with fail
            refine (Calls.grown (SG'.out _ (S4.out))).mono ?_
            rintro e w1 ⟨rfl, z8, rfl⟩
            go_upto_region 12 with (fail)
            obtain ⟨W5, hW5⟩ : ∃ W5, ((gw W4 z8)).alloc (.cells #[.int .i64 A, .int .i64 B] 26) = W5 := ⟨_, rfl⟩
            have hbW5 : Below W4.heap.size W4 W5 := by rw [← hW5]; exact (below_gw W4 z8).alloc (by simp [gw_size]) _
            have ZcW5 := Lib.hid ((hbW5.block _ (Array.getElem?_eq_some_iff.1 ZcW4.out).1).trans ZcW4.out)
            have ZxW5 := Lib.hid ((hbW5.block _ (Array.getElem?_eq_some_iff.1 ZxW4.out).1).trans ZxW4.out)
            have ZyW5 := Lib.hid ((hbW5.block _ (Array.getElem?_eq_some_iff.1 ZyW4.out).1).trans ZyW4.out)
            have zsW5 : W5.heap[W4.heap.size + z8.bs.size]? = some (.cells #[.int .i64 A, .int .i64 B] 26 (0, 0)) := by rw [← hW5]; exact alloc_at (by simp [gw_size])
            have ZsW5 := Lib.hid zsW5; clear zsW5
            have HBW5 := Lib.hid (thru hbW5 HBW4.out)
            have SBW5 := Lib.hid hbW5; clear hbW5
            have HWW5 := Lib.hid hW5; clear hW5
            rw [HWW5.out]
            clear ey0W4 ey1W4 ey2W4 ey3W4 ey4W4
            have S5 := Lib.hid (S4.out.trans (SBW5.out.mono S4.out.size))
            have ey0W5 : W5.cell? ⟨W1.heap.size + z2.bs.size, 0, none⟩ = some (.int .i64 y.day) := cell_of_block ZyW5.out 0 (by simp)
            have ey1W5 : W5.cell? ⟨W1.heap.size + z2.bs.size, 1, none⟩ = some (.int .i64 y.alo) := cell_of_block ZyW5.out 1 (by simp)
            have ey2W5 : W5.cell? ⟨W1.heap.size + z2.bs.size, 2, none⟩ = some (.int .i64 y.ahi) := cell_of_block ZyW5.out 2 (by simp)
            have ey3W5 : W5.cell? ⟨W1.heap.size + z2.bs.size, 3, none⟩ = some (.int .i64 y.wlo) := cell_of_block ZyW5.out 3 (by simp)
            have ey4W5 : W5.cell? ⟨W1.heap.size + z2.bs.size, 4, none⟩ = some (.int .i64 y.whi) := cell_of_block ZyW5.out 4 (by simp)
            have lyW5 := (Array.getElem?_eq_some_iff.1 ZyW5.out).1
            have ex0W5 : W5.cell? ⟨w.heap.size + 1, 0, none⟩ = some (.int .i64 x.day) := cell_of_block ZxW5.out 0 (by simp)
            have ex1W5 : W5.cell? ⟨w.heap.size + 1, 1, none⟩ = some (.int .i64 x.alo) := cell_of_block ZxW5.out 1 (by simp)
            have ex2W5 : W5.cell? ⟨w.heap.size + 1, 2, none⟩ = some (.int .i64 x.ahi) := cell_of_block ZxW5.out 2 (by simp)
            have ex3W5 : W5.cell? ⟨w.heap.size + 1, 3, none⟩ = some (.int .i64 x.wlo) := cell_of_block ZxW5.out 3 (by simp)
            have ex4W5 : W5.cell? ⟨w.heap.size + 1, 4, none⟩ = some (.int .i64 x.whi) := cell_of_block ZxW5.out 4 (by simp)
            have lxW5 := (Array.getElem?_eq_some_iff.1 ZxW5.out).1
            have es0W5 : W5.cell? ⟨W4.heap.size + z8.bs.size, 0, none⟩ = some (.int .i64 A) := cell_of_block ZsW5.out 0 (by simp)
            have es1W5 : W5.cell? ⟨W4.heap.size + z8.bs.size, 1, none⟩ = some (.int .i64 B) := cell_of_block ZsW5.out 1 (by simp)
            have lsW5 := (Array.getElem?_eq_some_iff.1 ZsW5.out).1
            go_wp2_with fail
            refine (Calls.grown (has_true _ _ _ _ (by assumption) (by assumption))).mono ?_
            rintro e w1 ⟨rfl, z9, rfl⟩
            go_wp2_with fail
            refine (Calls.gw_of (has_true _ _ _ _ (by assumption) (by assumption))).mono ?_
            rintro e w1 ⟨rfl, z10, rfl⟩
            go_wp2_with fail
            refine (Calls.gw_of (alive_any _)).mono ?_
            rintro e w1 ⟨rfl, z11, rfl⟩
            go_wp2_with fail
            go_ret
            exact ⟨rfl, HBW5.out.gw z11⟩
        · rw [atV_err h0, zero_val] at AT
          generalize errH C x k F G day = E at *
          have ne : (E != 0) = true := by simpa using h0
          unfold Cont.val at AT
          have AT' := Lib.hid AT; clear AT h0
          go_wp2_with fail
          refine (Calls.gw_of (AT'.out _ (below_gw W1 z1))).mono ?_
          rintro e w1 ⟨rfl, z2, rfl⟩
          go_upto_region 4 with (fail)
          obtain ⟨W2, hW2⟩ : ∃ W2, ((gw W1 z2)).alloc (.cells #[.int .i64 0, .int .i64 0, .int .i64 0, .int .i64 0, .int .i64 0] 28) = W2 := ⟨_, rfl⟩
          have hbW2 : Below W1.heap.size W1 W2 := by rw [← hW2]; exact (below_gw W1 z2).alloc (by simp [gw_size]) _
          have ZcW2 := Lib.hid ((hbW2.block _ (Array.getElem?_eq_some_iff.1 Zc0.out).1).trans Zc0.out)
          have ZxW2 := Lib.hid ((hbW2.block _ (Array.getElem?_eq_some_iff.1 Zc1.out).1).trans Zc1.out)
          have zyW2 : W2.heap[W1.heap.size + z2.bs.size]? = some (.cells #[.int .i64 0, .int .i64 0, .int .i64 0, .int .i64 0, .int .i64 0] 28 (0, 0)) := by rw [← hW2]; exact alloc_at (by simp [gw_size])
          have ZyW2 := Lib.hid zyW2; clear zyW2
          have HBW2 := Lib.hid (thru hbW2 HBc.out)
          have SBW2 := Lib.hid hbW2; clear hbW2
          have HWW2 := Lib.hid hW2; clear hW2
          rw [HWW2.out]
          clear c00 c01 c02 c10 c11 c12 c13 c14
          have S2 := Lib.hid SBW2.out
          have ey0W2 : W2.cell? ⟨W1.heap.size + z2.bs.size, 0, none⟩ = some (.int .i64 0) := cell_of_block ZyW2.out 0 (by simp)
          have ey1W2 : W2.cell? ⟨W1.heap.size + z2.bs.size, 1, none⟩ = some (.int .i64 0) := cell_of_block ZyW2.out 1 (by simp)
          have ey2W2 : W2.cell? ⟨W1.heap.size + z2.bs.size, 2, none⟩ = some (.int .i64 0) := cell_of_block ZyW2.out 2 (by simp)
          have ey3W2 : W2.cell? ⟨W1.heap.size + z2.bs.size, 3, none⟩ = some (.int .i64 0) := cell_of_block ZyW2.out 3 (by simp)
          have ey4W2 : W2.cell? ⟨W1.heap.size + z2.bs.size, 4, none⟩ = some (.int .i64 0) := cell_of_block ZyW2.out 4 (by simp)
          have lyW2 := (Array.getElem?_eq_some_iff.1 ZyW2.out).1
          go_wp2_with fail
          refine (Calls.grown (alive_any _)).mono ?_
          rintro e w1 ⟨rfl, z3, rfl⟩
          go_wp2_with fail
          go_ret
          exact ⟨rfl, HBW2.out.gw z3⟩
end Go.Proofs.Ytljofnmgddfljaa
