/- Contract of Follow. No conditions beyond each theorem's own. -/
import Derived.Test.YtljofnmgddfljaaCa
import Derived.Test.YtljofnmgddfljaaBs
set_option linter.unusedVariables false
set_option linter.unusedSimpArgs false
set_option linter.unusedSectionVars false
set_option linter.constructorNameAsVariable false
namespace Go.Proofs.Ytljofnmgddfljaa
open Go.RowKit

attribute [local go_sem] gw_cell gw_frozen gw_size

/-- measurements in a list -/
def RegsAt (w : World) (a : Option Addr) (n : Nat) (M : Nat → Reg) : Prop :=
  n = 0 ∨ ∃ b off, a = some ⟨b, off, none⟩ ∧ b < w.heap.size ∧ ∀ i, i < n → w.cell? ⟨b, off + i * 5, none⟩ = some (.int .i64 (M i).day) ∧ w.cell? ⟨b, off + i * 5 + 1, none⟩ = some (.int .i64 (M i).vlo) ∧ w.cell? ⟨b, off + i * 5 + 2, none⟩ = some (.int .i64 (M i).vhi) ∧ w.cell? ⟨b, off + i * 5 + 3, none⟩ = some (.int .i64 (M i).slo) ∧ w.cell? ⟨b, off + i * 5 + 4, none⟩ = some (.int .i64 (M i).shi)
theorem RegsAt.below {w w' : World} {a : Option Addr} {n : Nat} {M : Nat → Reg} (h : RegsAt w a n M) (hb : Below w.heap.size w w') : RegsAt w' a n M := by
  rcases h with h | ⟨b, off, rfl, hlt, hc⟩
  · exact .inl h
  · refine .inr ⟨b, off, rfl, Nat.lt_of_lt_of_le hlt hb.size, fun i hi => ?_⟩
    obtain ⟨h0, h1, h2, h3, h4⟩ := hc i hi
    exact ⟨(hb.cell (p := ⟨b, _, none⟩) hlt).trans h0, (hb.cell (p := ⟨b, _, none⟩) hlt).trans h1, (hb.cell (p := ⟨b, _, none⟩) hlt).trans h2, (hb.cell (p := ⟨b, _, none⟩) hlt).trans h3, (hb.cell (p := ⟨b, _, none⟩) hlt).trans h4⟩

section
variable (C : Clim) (k : Nat) (F G : Nat → Int) (M : Nat → Reg)
/-- r measurements from the i-th on, one after the other -/
def folS : Nat → Nat → Cont → Cont × Nat × Int
  | 0, i, x => (x, i, 0)
  | r + 1, i, x => if measF C x k F G (M i) = 0 then folS r (i + 1) (measV C x k F G (M i)) else (zeroCont, i, measF C x k F G (M i))
/-- all measurements -/
def folV (x : Cont) (n : Nat) : Cont × Nat × Int := if 64 < n then (zeroCont, 0, 3) else if climB C = true ∧ contB x = true ∧ staysB C.nA k F G = true then folS C k F G M n 0 x else (zeroCont, 0, 1)
variable {C k F G M} {n j : Nat} {y : Cont}
theorem folS_ok (hj : j < n) (h : measF C y k F G (M j) = 0) : folS C k F G M (n - j) j y = folS C k F G M (n - (j + 1)) (j + 1) (measV C y k F G (M j)) := by
  rw [show n - j = (n - (j + 1)) + 1 by omega, folS, if_pos h]
theorem folS_bad (hj : j < n) (h : measF C y k F G (M j) ≠ 0) : folS C k F G M (n - j) j y = (zeroCont, j, measF C y k F G (M j)) := by
  rw [show n - j = (n - (j + 1)) + 1 by omega, folS, if_neg h]
theorem folS_end : folS C k F G M (n - n) n y = (y, n, 0) := by rw [Nat.sub_self, folS]
end

set_option maxRecDepth 100000 in
set_option maxHeartbeats 8000000 in
theorem Follow_any (C : Clim) (x : Cont) (aS aL : Option Addr) (k cS n cL : Nat) (F G : Nat → Int) (M : Nat → Reg) (R : Cont × Nat × Int) (w : World) (hC : C.In w) (hf : C.Fits) (hk : k ≤ 9223372036854775807) (hS : SpansAt w aS k F G) (hL : RegsAt w aL n M) (hn : n ≤ 9223372036854775807) (hR : folV C k F G M x n = R) :
    Calls Try.prog 34 #[.agg #[.int .i64 C.days, .slice C.aA C.nA C.cA, .slice C.aW C.nW C.cW], x.val, .slice aS k cS, .slice aL n cL] w fun e w' => e = .returned (.tuple #[R.1.val, .int .i64 R.2.1, .int .i64 R.2.2]) ∧ Below w.heap.size w w' := by
  rw [show x.val = .agg #[.int .i64 x.day, .int .i64 x.alo, .int .i64 x.ahi, .int .i64 x.wlo, .int .i64 x.whi] from rfl]
  obtain ⟨W1, hW1⟩ : ∃ W1, ((w.alloc (.cells #[.int .i64 C.days, .slice C.aA C.nA C.cA, .slice C.aW C.nW C.cW] 24)).alloc (.cells #[.int .i64 x.day, .int .i64 x.alo, .int .i64 x.ahi, .int .i64 x.wlo, .int .i64 x.whi] 28)).alloc (.cells #[.int .i64 0, .int .i64 0, .int .i64 0, .int .i64 0, .int .i64 0] 28) = W1 := ⟨_, rfl⟩
  have hBc : Below w.heap.size w W1 := by rw [← hW1]; exact ((below_alloc _ _).alloc (by simp) _).alloc (by simp <;> omega) _
  have zc0 : W1.heap[w.heap.size]? = some (.cells #[.int .i64 C.days, .slice C.aA C.nA C.cA, .slice C.aW C.nW C.cW] 24 (0, 0)) := by rw [← hW1]; exact alloc_keep (alloc_keep (alloc_at rfl))
  have zc1 : W1.heap[w.heap.size + 1]? = some (.cells #[.int .i64 x.day, .int .i64 x.alo, .int .i64 x.ahi, .int .i64 x.wlo, .int .i64 x.whi] 28 (0, 0)) := by rw [← hW1]; exact alloc_keep (alloc_at (by simp))
  have zc2 : W1.heap[w.heap.size + 1 + 1]? = some (.cells #[.int .i64 0, .int .i64 0, .int .i64 0, .int .i64 0, .int .i64 0] 28 (0, 0)) := by rw [← hW1]; exact alloc_at (by simp <;> omega)
  have c00 : W1.cell? ⟨w.heap.size, 0, none⟩ = some (.int .i64 C.days) := cell_of_block zc0 0 (by simp)
  have c01 : W1.cell? ⟨w.heap.size, 1, none⟩ = some (.slice C.aA C.nA C.cA) := cell_of_block zc0 1 (by simp)
  have c02 : W1.cell? ⟨w.heap.size, 2, none⟩ = some (.slice C.aW C.nW C.cW) := cell_of_block zc0 2 (by simp)
  have c10 : W1.cell? ⟨w.heap.size + 1, 0, none⟩ = some (.int .i64 x.day) := cell_of_block zc1 0 (by simp)
  have c11 : W1.cell? ⟨w.heap.size + 1, 1, none⟩ = some (.int .i64 x.alo) := cell_of_block zc1 1 (by simp)
  have c12 : W1.cell? ⟨w.heap.size + 1, 2, none⟩ = some (.int .i64 x.ahi) := cell_of_block zc1 2 (by simp)
  have c13 : W1.cell? ⟨w.heap.size + 1, 3, none⟩ = some (.int .i64 x.wlo) := cell_of_block zc1 3 (by simp)
  have c14 : W1.cell? ⟨w.heap.size + 1, 4, none⟩ = some (.int .i64 x.whi) := cell_of_block zc1 4 (by simp)
  have c20 : W1.cell? ⟨w.heap.size + 1 + 1, 0, none⟩ = some (.int .i64 0) := cell_of_block zc2 0 (by simp)
  have c21 : W1.cell? ⟨w.heap.size + 1 + 1, 1, none⟩ = some (.int .i64 0) := cell_of_block zc2 1 (by simp)
  have c22 : W1.cell? ⟨w.heap.size + 1 + 1, 2, none⟩ = some (.int .i64 0) := cell_of_block zc2 2 (by simp)
  have c23 : W1.cell? ⟨w.heap.size + 1 + 1, 3, none⟩ = some (.int .i64 0) := cell_of_block zc2 3 (by simp)
  have c24 : W1.cell? ⟨w.heap.size + 1 + 1, 4, none⟩ = some (.int .i64 0) := cell_of_block zc2 4 (by simp)
  have lc0 := (Array.getElem?_eq_some_iff.1 zc0).1
  have lc1 := (Array.getElem?_eq_some_iff.1 zc1).1
  have lc2 := (Array.getElem?_eq_some_iff.1 zc2).1
  have fc20 := frozen_of_block zc2 0
  have fc21 := frozen_of_block zc2 1
  have fc22 := frozen_of_block zc2 2
  have fc23 := frozen_of_block zc2 3
  have fc24 := frozen_of_block zc2 4
  have Zc0 := Lib.hid zc0
  have Zc1 := Lib.hid zc1
  have Zc2 := Lib.hid zc2
  clear zc0 zc1 zc2
  have HBc := Lib.hid hBc; clear hBc
  have HWc := Lib.hid hW1; clear hW1
  have HCw := Lib.hid hC
  have HSw := Lib.hid hS
  have HLw := Lib.hid hL; clear hL
  have HC := Lib.hid (hC.below HBc.out); clear hC
  have HS := Lib.hid (hS.below HBc.out); clear hS
  unfold folV at hR
  by_cases h64 : 64 < n
  · rw [if_pos h64] at hR
    have HR := Lib.hid hR.symm; clear hR
    go_enter Try.func34, Try.ntmps34
    go_wp2_with fail
    rw [HWc.out]
    go_wp2_with fail
    refine bodyPost_ret (v := .tuple #[.agg #[.int .i64 0, .int .i64 0, .int .i64 0, .int .i64 0, .int .i64 0], .int .i64 0, .int .i64 3]) (by simp [results, Try.results34, go_sem, *]) rfl ⟨by rw [HR.out]; rfl, ?_⟩
    exact HBc.out
  · rw [if_neg h64] at hR
    cases g1 : climB C with
    | false =>
      rw [if_neg (by rw [g1]; simp)] at hR
      have HR := Lib.hid hR.symm; clear hR
      have IC := Lib.hid (isClimate_b C W1 HC.out hf g1); clear g1
      go_enter Try.func34, Try.ntmps34
      go_wp2_with fail
      rw [HWc.out]
      go_wp2_with fail
      refine (Calls.grown (IC.out)).mono ?_
      rintro e w1 ⟨rfl, z1, rfl⟩
      go_wp2_with fail
      refine bodyPost_ret (v := .tuple #[.agg #[.int .i64 0, .int .i64 0, .int .i64 0, .int .i64 0, .int .i64 0], .int .i64 0, .int .i64 1]) (by simp [results, Try.results34, go_sem, *]) rfl ⟨by rw [HR.out]; rfl, ?_⟩
      exact (((((HBc.out.gw z1).setCell (by simp <;> omega) _).setCell (by simp <;> omega) _).setCell (by simp <;> omega) _).setCell (by simp <;> omega) _).setCell (by simp <;> omega) _
    | true =>
      have IC := Lib.hid (isClimate_b C W1 HC.out hf g1)
      cases g2 : contB x with
      | false =>
        rw [if_neg (by rw [g2]; simp)] at hR
        have HR := Lib.hid hR.symm; clear hR
        have IX := Lib.hid (fun W => isContent_b x W g2); clear g1 g2
        go_enter Try.func34, Try.ntmps34
        go_wp2_with fail
        rw [HWc.out]
        go_wp2_with fail
        refine (Calls.grown (IC.out)).mono ?_
        rintro e w1 ⟨rfl, z1, rfl⟩
        go_wp2_with fail
        refine (Calls.gw_of (IX.out _)).mono ?_
        rintro e w1 ⟨rfl, z2, rfl⟩
        go_wp2_with fail
        refine bodyPost_ret (v := .tuple #[.agg #[.int .i64 0, .int .i64 0, .int .i64 0, .int .i64 0, .int .i64 0], .int .i64 0, .int .i64 1]) (by simp [results, Try.results34, go_sem, *]) rfl ⟨by rw [HR.out]; rfl, ?_⟩
        exact (((((HBc.out.gw z2).setCell (by simp <;> omega) _).setCell (by simp <;> omega) _).setCell (by simp <;> omega) _).setCell (by simp <;> omega) _).setCell (by simp <;> omega) _
      | true =>
        have IX := Lib.hid (fun W => isContent_b x W g2)
        cases g3 : staysB C.nA k F G with
        | false =>
          rw [if_neg (by rw [g3]; simp)] at hR
          have HR := Lib.hid hR.symm; clear hR
          have IS := Lib.hid (fun W (hb : Below W1.heap.size W1 W) => areStays_b C aS k cS F G W hf hk (HS.out.below hb) g3); clear g1 g2 g3
          go_enter Try.func34, Try.ntmps34
          go_wp2_with fail
          rw [HWc.out]
          go_wp2_with fail
          refine (Calls.grown (IC.out)).mono ?_
          rintro e w1 ⟨rfl, z1, rfl⟩
          go_wp2_with fail
          refine (Calls.gw_of (IX.out _)).mono ?_
          rintro e w1 ⟨rfl, z2, rfl⟩
          go_wp2_with fail
          refine (Calls.gw_of (IS.out _ (below_gw W1 _))).mono ?_
          rintro e w1 ⟨rfl, z3, rfl⟩
          go_wp2_with fail
          refine bodyPost_ret (v := .tuple #[.agg #[.int .i64 0, .int .i64 0, .int .i64 0, .int .i64 0, .int .i64 0], .int .i64 0, .int .i64 1]) (by simp [results, Try.results34, go_sem, *]) rfl ⟨by rw [HR.out]; rfl, ?_⟩
          exact (((((HBc.out.gw z3).setCell (by simp <;> omega) _).setCell (by simp <;> omega) _).setCell (by simp <;> omega) _).setCell (by simp <;> omega) _).setCell (by simp <;> omega) _
        | true =>
          rw [if_pos ⟨g1, g2, g3⟩] at hR
          have HR := Lib.hid hR; clear hR
          have IS := Lib.hid (fun W (hb : Below W1.heap.size W1 W) => areStays_b C aS k cS F G W hf hk (HS.out.below hb) g3); clear g1 g2 g3
          go_enter Try.func34, Try.ntmps34
          go_wp2_with fail
          rw [HWc.out]
          go_wp2_with fail
          refine (Calls.grown (IC.out)).mono ?_
          rintro e w1 ⟨rfl, z1, rfl⟩
          go_wp2_with fail
          refine (Calls.gw_of (IX.out _)).mono ?_
          rintro e w1 ⟨rfl, z2, rfl⟩
          go_wp2_with fail
          refine (Calls.gw_of (IS.out _ (below_gw W1 _))).mono ?_
          rintro e w1 ⟨rfl, z3, rfl⟩
          go_wp2_with fail
          have K0 := Lib.hid (((below_gw W1 z3).block _ lc0).trans Zc0.out)
          have K1 := Lib.hid (((below_gw W1 z3).block _ lc1).trans Zc1.out)
          have K2 := Lib.hid (((below_gw W1 z3).block _ lc2).trans Zc2.out)
          have BW := Lib.hid (HBc.out.gw z3)
          clear c00 c01 c02 c10 c11 c12 c13 c14 c20 c21 c22 c23 c24 fc20 fc21 fc22 fc23 fc24 lc0 lc1 lc2
          go_loopw [38] (fun i wr => ∃ (j : Nat) (y : Cont), j ≤ n ∧ i = .int .i64 j ∧ Hid (folS C k F G M (n - j) j y = R) ∧ wr.heap[w.heap.size]? = some (.cells #[.int .i64 C.days, .slice C.aA C.nA C.cA, .slice C.aW C.nW C.cW] 24 (0, 0)) ∧ wr.heap[w.heap.size + 1]? = some (.cells #[.int .i64 y.day, .int .i64 y.alo, .int .i64 y.ahi, .int .i64 y.wlo, .int .i64 y.whi] 28 (0, 0)) ∧ wr.heap[w.heap.size + 1 + 1]? = some (.cells #[.int .i64 0, .int .i64 0, .int .i64 0, .int .i64 0, .int .i64 0] 28 (0, 0)) ∧ Hid (Below w.heap.size w wr)) (fun i _ => n - (intOf i).toNat)
          case atStart => exact ⟨0, x, Nat.zero_le _, rfl, HR, K0.out, K1.out, K2.out, BW⟩
          case round =>
            obtain ⟨j, y, hj, rfl, hR, h0, h1, h2, HB⟩ := hrel
            have H0 := Lib.hid h0; clear h0
            have H1 := Lib.hid h1; clear h1
            have H2 := Lib.hid h2; clear h2
            by_cases hlt : j < n
            · rcases HLw.out with hz | ⟨b, off, rfl, lb, hc⟩
              · omega
              · obtain ⟨m0, m1, m2, m3, m4⟩ := hc j hlt
                have lbr := Nat.lt_of_lt_of_le lb HB.out.size
                have q0 := below_cell HB.out m0
                have q1 := below_cell HB.out m1
                have q2 := below_cell HB.out m2
                have q3 := below_cell HB.out m3
                have q4 := below_cell HB.out m4
                clear hc m0 m1 m2 m3 m4
                have FO := folS_ok (C := C) (k := k) (F := F) (G := G) (M := M) (y := y) hlt
                have FB := folS_bad (C := C) (k := k) (F := F) (G := G) (M := M) (y := y) hlt
                rw [hR.out] at FO FB
                obtain ⟨m, hm⟩ : ∃ m, M j = m := ⟨_, rfl⟩
                rw [hm] at FO FB q0 q1 q2 q3 q4
                clear hm hR
                have ME := fun W (hb : Below wr.heap.size wr W) => Measure_any C y aS k cS F G m W ((HCw.out.below HB.out).below hb) hf hk ((HSw.out.below HB.out).below hb)
                obtain ⟨f, hf0⟩ : ∃ f, measF C y k F G m = f := ⟨_, rfl⟩
                obtain ⟨v, hv⟩ : ∃ v, measV C y k F G m = v := ⟨_, rfl⟩
                rw [hf0, hv] at ME
                rw [hf0, hv] at FO
                rw [hf0] at FB
                clear hf0 hv
                unfold Reg.val Cont.val at ME
                have ME' := Lib.hid ME; clear ME
                by_cases ff : f = 0
                · subst ff
                  have HR := Lib.hid (FO rfl).symm; clear FO FB
                  go_upto_region 8 with (fail)
                  obtain ⟨W2, hW2⟩ : ∃ W2, ((wr)).alloc (.cells #[.int .i64 m.day, .int .i64 m.vlo, .int .i64 m.vhi, .int .i64 m.slo, .int .i64 m.shi] 44) = W2 := ⟨_, rfl⟩
                  have hbW2 : Below wr.heap.size wr W2 := by rw [← hW2]; exact (Below.refl _ wr).alloc (by simp [gw_size]) _
                  have ZcW2 := Lib.hid ((hbW2.block _ (Array.getElem?_eq_some_iff.1 H0.out).1).trans H0.out)
                  have ZxW2 := Lib.hid ((hbW2.block _ (Array.getElem?_eq_some_iff.1 H1.out).1).trans H1.out)
                  have ZoW2 := Lib.hid ((hbW2.block _ (Array.getElem?_eq_some_iff.1 H2.out).1).trans H2.out)
                  have zmW2 : W2.heap[wr.heap.size]? = some (.cells #[.int .i64 m.day, .int .i64 m.vlo, .int .i64 m.vhi, .int .i64 m.slo, .int .i64 m.shi] 44 (0, 0)) := by rw [← hW2]; exact alloc_at (by simp [gw_size])
                  have ZmW2 := Lib.hid zmW2; clear zmW2
                  have HBW2 := Lib.hid (thru hbW2 HB.out)
                  have SBW2 := Lib.hid hbW2; clear hbW2
                  have HWW2 := Lib.hid hW2; clear hW2
                  rw [HWW2.out]
                  have ec0W2 : W2.cell? ⟨w.heap.size, 0, none⟩ = some (.int .i64 C.days) := cell_of_block ZcW2.out 0 (by simp)
                  have ec1W2 : W2.cell? ⟨w.heap.size, 1, none⟩ = some (.slice C.aA C.nA C.cA) := cell_of_block ZcW2.out 1 (by simp)
                  have ec2W2 : W2.cell? ⟨w.heap.size, 2, none⟩ = some (.slice C.aW C.nW C.cW) := cell_of_block ZcW2.out 2 (by simp)
                  have lcW2 := (Array.getElem?_eq_some_iff.1 ZcW2.out).1
                  have ex0W2 : W2.cell? ⟨w.heap.size + 1, 0, none⟩ = some (.int .i64 y.day) := cell_of_block ZxW2.out 0 (by simp)
                  have ex1W2 : W2.cell? ⟨w.heap.size + 1, 1, none⟩ = some (.int .i64 y.alo) := cell_of_block ZxW2.out 1 (by simp)
                  have ex2W2 : W2.cell? ⟨w.heap.size + 1, 2, none⟩ = some (.int .i64 y.ahi) := cell_of_block ZxW2.out 2 (by simp)
                  have ex3W2 : W2.cell? ⟨w.heap.size + 1, 3, none⟩ = some (.int .i64 y.wlo) := cell_of_block ZxW2.out 3 (by simp)
                  have ex4W2 : W2.cell? ⟨w.heap.size + 1, 4, none⟩ = some (.int .i64 y.whi) := cell_of_block ZxW2.out 4 (by simp)
                  have lxW2 := (Array.getElem?_eq_some_iff.1 ZxW2.out).1
                  have em0W2 : W2.cell? ⟨wr.heap.size, 0, none⟩ = some (.int .i64 m.day) := cell_of_block ZmW2.out 0 (by simp)
                  have em1W2 : W2.cell? ⟨wr.heap.size, 1, none⟩ = some (.int .i64 m.vlo) := cell_of_block ZmW2.out 1 (by simp)
                  have em2W2 : W2.cell? ⟨wr.heap.size, 2, none⟩ = some (.int .i64 m.vhi) := cell_of_block ZmW2.out 2 (by simp)
                  have em3W2 : W2.cell? ⟨wr.heap.size, 3, none⟩ = some (.int .i64 m.slo) := cell_of_block ZmW2.out 3 (by simp)
                  have em4W2 : W2.cell? ⟨wr.heap.size, 4, none⟩ = some (.int .i64 m.shi) := cell_of_block ZmW2.out 4 (by simp)
                  have lmW2 := (Array.getElem?_eq_some_iff.1 ZmW2.out).1
                  go_wp2_with fail
                  refine (Calls.grown (ME'.out _ SBW2.out)).mono ?_
                  rintro e w1 ⟨rfl, z1, rfl⟩
                  go_upto_region 9 with (fail)
                  obtain ⟨W3, hW3⟩ : ∃ W3, ((gw W2 z1)).alloc (.cells #[.int .i64 v.day, .int .i64 v.alo, .int .i64 v.ahi, .int .i64 v.wlo, .int .i64 v.whi] 28) = W3 := ⟨_, rfl⟩
                  have hbW3 : Below W2.heap.size W2 W3 := by rw [← hW3]; exact (below_gw W2 z1).alloc (by simp [gw_size]) _
                  have ZcW3 := Lib.hid ((hbW3.block _ (Array.getElem?_eq_some_iff.1 ZcW2.out).1).trans ZcW2.out)
                  have ZxW3 := Lib.hid ((hbW3.block _ (Array.getElem?_eq_some_iff.1 ZxW2.out).1).trans ZxW2.out)
                  have ZoW3 := Lib.hid ((hbW3.block _ (Array.getElem?_eq_some_iff.1 ZoW2.out).1).trans ZoW2.out)
                  have ZmW3 := Lib.hid ((hbW3.block _ (Array.getElem?_eq_some_iff.1 ZmW2.out).1).trans ZmW2.out)
                  have zvW3 : W3.heap[W2.heap.size + z1.bs.size]? = some (.cells #[.int .i64 v.day, .int .i64 v.alo, .int .i64 v.ahi, .int .i64 v.wlo, .int .i64 v.whi] 28 (0, 0)) := by rw [← hW3]; exact alloc_at (by simp [gw_size])
                  have ZvW3 := Lib.hid zvW3; clear zvW3
                  have HBW3 := Lib.hid (thru hbW3 HBW2.out)
                  have SBW3 := Lib.hid hbW3; clear hbW3
                  have HWW3 := Lib.hid hW3; clear hW3
                  rw [HWW3.out]
                  clear ec0W2 ec1W2 ec2W2 ex0W2 ex1W2 ex2W2 ex3W2 ex4W2 em0W2 em1W2 em2W2 em3W2 em4W2
                  have ev0W3 : W3.cell? ⟨W2.heap.size + z1.bs.size, 0, none⟩ = some (.int .i64 v.day) := cell_of_block ZvW3.out 0 (by simp)
                  have ev1W3 : W3.cell? ⟨W2.heap.size + z1.bs.size, 1, none⟩ = some (.int .i64 v.alo) := cell_of_block ZvW3.out 1 (by simp)
                  have ev2W3 : W3.cell? ⟨W2.heap.size + z1.bs.size, 2, none⟩ = some (.int .i64 v.ahi) := cell_of_block ZvW3.out 2 (by simp)
                  have ev3W3 : W3.cell? ⟨W2.heap.size + z1.bs.size, 3, none⟩ = some (.int .i64 v.wlo) := cell_of_block ZvW3.out 3 (by simp)
                  have ev4W3 : W3.cell? ⟨W2.heap.size + z1.bs.size, 4, none⟩ = some (.int .i64 v.whi) := cell_of_block ZvW3.out 4 (by simp)
                  have lvW3 := (Array.getElem?_eq_some_iff.1 ZvW3.out).1
                  have ex0W3 : W3.cell? ⟨w.heap.size + 1, 0, none⟩ = some (.int .i64 y.day) := cell_of_block ZxW3.out 0 (by simp)
                  have fx0W3 := frozen_of_block ZxW3.out 0
                  have ex1W3 : W3.cell? ⟨w.heap.size + 1, 1, none⟩ = some (.int .i64 y.alo) := cell_of_block ZxW3.out 1 (by simp)
                  have fx1W3 := frozen_of_block ZxW3.out 1
                  have ex2W3 : W3.cell? ⟨w.heap.size + 1, 2, none⟩ = some (.int .i64 y.ahi) := cell_of_block ZxW3.out 2 (by simp)
                  have fx2W3 := frozen_of_block ZxW3.out 2
                  have ex3W3 : W3.cell? ⟨w.heap.size + 1, 3, none⟩ = some (.int .i64 y.wlo) := cell_of_block ZxW3.out 3 (by simp)
                  have fx3W3 := frozen_of_block ZxW3.out 3
                  have ex4W3 : W3.cell? ⟨w.heap.size + 1, 4, none⟩ = some (.int .i64 y.whi) := cell_of_block ZxW3.out 4 (by simp)
                  have fx4W3 := frozen_of_block ZxW3.out 4
                  have lxW3 := (Array.getElem?_eq_some_iff.1 ZxW3.out).1
                  have FS := Lib.hid (five_set (by simp) ZxW3.out (.int .i64 v.day) (.int .i64 v.alo) (.int .i64 v.ahi) (.int .i64 v.wlo) (.int .i64 v.whi))
                  have FGR := Lib.hid (five_grown W3 (w.heap.size + 1) (.int .i64 v.day) (.int .i64 v.alo) (.int .i64 v.ahi) (.int .i64 v.wlo) (.int .i64 v.whi))
                  go_wp2_with fail
                  go_roundw
                  case rel => exact ⟨j + 1, v, by omega, by go_num, HR, (FGR.out.block _ (Array.getElem?_eq_some_iff.1 ZcW3.out).1 (by simp)).trans ZcW3.out, FS.out, (FGR.out.block _ (Array.getElem?_eq_some_iff.1 ZoW3.out).1 (by simp)).trans ZoW3.out, Lib.hid ((((((HBW3.out).setCell (by simp <;> omega) _).setCell (by simp <;> omega) _).setCell (by simp <;> omega) _).setCell (by simp <;> omega) _).setCell (by simp <;> omega) _)⟩
                  case measure => simp [intOf]; omega
                · have HR := Lib.hid (FB ff); clear FO FB
                  have ne : (f != 0) = true := by simpa using ff
                  clear ff
                  go_upto_region 8 with (fail)
                  obtain ⟨W2, hW2⟩ : ∃ W2, ((wr)).alloc (.cells #[.int .i64 m.day, .int .i64 m.vlo, .int .i64 m.vhi, .int .i64 m.slo, .int .i64 m.shi] 44) = W2 := ⟨_, rfl⟩
                  have hbW2 : Below wr.heap.size wr W2 := by rw [← hW2]; exact (Below.refl _ wr).alloc (by simp [gw_size]) _
                  have ZcW2 := Lib.hid ((hbW2.block _ (Array.getElem?_eq_some_iff.1 H0.out).1).trans H0.out)
                  have ZxW2 := Lib.hid ((hbW2.block _ (Array.getElem?_eq_some_iff.1 H1.out).1).trans H1.out)
                  have ZoW2 := Lib.hid ((hbW2.block _ (Array.getElem?_eq_some_iff.1 H2.out).1).trans H2.out)
                  have zmW2 : W2.heap[wr.heap.size]? = some (.cells #[.int .i64 m.day, .int .i64 m.vlo, .int .i64 m.vhi, .int .i64 m.slo, .int .i64 m.shi] 44 (0, 0)) := by rw [← hW2]; exact alloc_at (by simp [gw_size])
                  have ZmW2 := Lib.hid zmW2; clear zmW2
                  have HBW2 := Lib.hid (thru hbW2 HB.out)
                  have SBW2 := Lib.hid hbW2; clear hbW2
                  have HWW2 := Lib.hid hW2; clear hW2
                  rw [HWW2.out]
                  have ec0W2 : W2.cell? ⟨w.heap.size, 0, none⟩ = some (.int .i64 C.days) := cell_of_block ZcW2.out 0 (by simp)
                  have ec1W2 : W2.cell? ⟨w.heap.size, 1, none⟩ = some (.slice C.aA C.nA C.cA) := cell_of_block ZcW2.out 1 (by simp)
                  have ec2W2 : W2.cell? ⟨w.heap.size, 2, none⟩ = some (.slice C.aW C.nW C.cW) := cell_of_block ZcW2.out 2 (by simp)
                  have lcW2 := (Array.getElem?_eq_some_iff.1 ZcW2.out).1
                  have ex0W2 : W2.cell? ⟨w.heap.size + 1, 0, none⟩ = some (.int .i64 y.day) := cell_of_block ZxW2.out 0 (by simp)
                  have ex1W2 : W2.cell? ⟨w.heap.size + 1, 1, none⟩ = some (.int .i64 y.alo) := cell_of_block ZxW2.out 1 (by simp)
                  have ex2W2 : W2.cell? ⟨w.heap.size + 1, 2, none⟩ = some (.int .i64 y.ahi) := cell_of_block ZxW2.out 2 (by simp)
                  have ex3W2 : W2.cell? ⟨w.heap.size + 1, 3, none⟩ = some (.int .i64 y.wlo) := cell_of_block ZxW2.out 3 (by simp)
                  have ex4W2 : W2.cell? ⟨w.heap.size + 1, 4, none⟩ = some (.int .i64 y.whi) := cell_of_block ZxW2.out 4 (by simp)
                  have lxW2 := (Array.getElem?_eq_some_iff.1 ZxW2.out).1
                  have em0W2 : W2.cell? ⟨wr.heap.size, 0, none⟩ = some (.int .i64 m.day) := cell_of_block ZmW2.out 0 (by simp)
                  have em1W2 : W2.cell? ⟨wr.heap.size, 1, none⟩ = some (.int .i64 m.vlo) := cell_of_block ZmW2.out 1 (by simp)
                  have em2W2 : W2.cell? ⟨wr.heap.size, 2, none⟩ = some (.int .i64 m.vhi) := cell_of_block ZmW2.out 2 (by simp)
                  have em3W2 : W2.cell? ⟨wr.heap.size, 3, none⟩ = some (.int .i64 m.slo) := cell_of_block ZmW2.out 3 (by simp)
                  have em4W2 : W2.cell? ⟨wr.heap.size, 4, none⟩ = some (.int .i64 m.shi) := cell_of_block ZmW2.out 4 (by simp)
                  have lmW2 := (Array.getElem?_eq_some_iff.1 ZmW2.out).1
                  go_wp2_with fail
                  refine (Calls.grown (ME'.out _ SBW2.out)).mono ?_
                  rintro e w1 ⟨rfl, z1, rfl⟩
                  go_upto_region 9 with (fail)
                  obtain ⟨W3, hW3⟩ : ∃ W3, ((gw W2 z1)).alloc (.cells #[.int .i64 v.day, .int .i64 v.alo, .int .i64 v.ahi, .int .i64 v.wlo, .int .i64 v.whi] 28) = W3 := ⟨_, rfl⟩
                  have hbW3 : Below W2.heap.size W2 W3 := by rw [← hW3]; exact (below_gw W2 z1).alloc (by simp [gw_size]) _
                  have ZcW3 := Lib.hid ((hbW3.block _ (Array.getElem?_eq_some_iff.1 ZcW2.out).1).trans ZcW2.out)
                  have ZxW3 := Lib.hid ((hbW3.block _ (Array.getElem?_eq_some_iff.1 ZxW2.out).1).trans ZxW2.out)
                  have ZoW3 := Lib.hid ((hbW3.block _ (Array.getElem?_eq_some_iff.1 ZoW2.out).1).trans ZoW2.out)
                  have ZmW3 := Lib.hid ((hbW3.block _ (Array.getElem?_eq_some_iff.1 ZmW2.out).1).trans ZmW2.out)
                  have zvW3 : W3.heap[W2.heap.size + z1.bs.size]? = some (.cells #[.int .i64 v.day, .int .i64 v.alo, .int .i64 v.ahi, .int .i64 v.wlo, .int .i64 v.whi] 28 (0, 0)) := by rw [← hW3]; exact alloc_at (by simp [gw_size])
                  have ZvW3 := Lib.hid zvW3; clear zvW3
                  have HBW3 := Lib.hid (thru hbW3 HBW2.out)
                  have SBW3 := Lib.hid hbW3; clear hbW3
                  have HWW3 := Lib.hid hW3; clear hW3
                  rw [HWW3.out]
                  clear ec0W2 ec1W2 ec2W2 ex0W2 ex1W2 ex2W2 ex3W2 ex4W2 em0W2 em1W2 em2W2 em3W2 em4W2
                  have ev0W3 : W3.cell? ⟨W2.heap.size + z1.bs.size, 0, none⟩ = some (.int .i64 v.day) := cell_of_block ZvW3.out 0 (by simp)
                  have ev1W3 : W3.cell? ⟨W2.heap.size + z1.bs.size, 1, none⟩ = some (.int .i64 v.alo) := cell_of_block ZvW3.out 1 (by simp)
                  have ev2W3 : W3.cell? ⟨W2.heap.size + z1.bs.size, 2, none⟩ = some (.int .i64 v.ahi) := cell_of_block ZvW3.out 2 (by simp)
                  have ev3W3 : W3.cell? ⟨W2.heap.size + z1.bs.size, 3, none⟩ = some (.int .i64 v.wlo) := cell_of_block ZvW3.out 3 (by simp)
                  have ev4W3 : W3.cell? ⟨W2.heap.size + z1.bs.size, 4, none⟩ = some (.int .i64 v.whi) := cell_of_block ZvW3.out 4 (by simp)
                  have lvW3 := (Array.getElem?_eq_some_iff.1 ZvW3.out).1
                  have eo0W3 : W3.cell? ⟨w.heap.size + 1 + 1, 0, none⟩ = some (.int .i64 0) := cell_of_block ZoW3.out 0 (by simp)
                  have fo0W3 := frozen_of_block ZoW3.out 0
                  have eo1W3 : W3.cell? ⟨w.heap.size + 1 + 1, 1, none⟩ = some (.int .i64 0) := cell_of_block ZoW3.out 1 (by simp)
                  have fo1W3 := frozen_of_block ZoW3.out 1
                  have eo2W3 : W3.cell? ⟨w.heap.size + 1 + 1, 2, none⟩ = some (.int .i64 0) := cell_of_block ZoW3.out 2 (by simp)
                  have fo2W3 := frozen_of_block ZoW3.out 2
                  have eo3W3 : W3.cell? ⟨w.heap.size + 1 + 1, 3, none⟩ = some (.int .i64 0) := cell_of_block ZoW3.out 3 (by simp)
                  have fo3W3 := frozen_of_block ZoW3.out 3
                  have eo4W3 : W3.cell? ⟨w.heap.size + 1 + 1, 4, none⟩ = some (.int .i64 0) := cell_of_block ZoW3.out 4 (by simp)
                  have fo4W3 := frozen_of_block ZoW3.out 4
                  have loW3 := (Array.getElem?_eq_some_iff.1 ZoW3.out).1
                  go_wp2_with fail
                  refine bodyPost_ret (v := .tuple #[.agg #[.int .i64 0, .int .i64 0, .int .i64 0, .int .i64 0, .int .i64 0], .int .i64 j, .int .i64 f]) (by simp [results, Try.results34, go_sem, *]) rfl ⟨by rw [HR.out]; rfl, ?_⟩
                  exact (((((HBW3.out).setCell (by simp <;> omega) _).setCell (by simp <;> omega) _).setCell (by simp <;> omega) _).setCell (by simp <;> omega) _).setCell (by simp <;> omega) _
            · obtain rfl : j = n := by omega
              have HRE := Lib.hid (hR.out.symm.trans folS_end)
              have ex0wr : wr.cell? ⟨w.heap.size + 1, 0, none⟩ = some (.int .i64 y.day) := cell_of_block H1.out 0 (by simp)
              have ex1wr : wr.cell? ⟨w.heap.size + 1, 1, none⟩ = some (.int .i64 y.alo) := cell_of_block H1.out 1 (by simp)
              have ex2wr : wr.cell? ⟨w.heap.size + 1, 2, none⟩ = some (.int .i64 y.ahi) := cell_of_block H1.out 2 (by simp)
              have ex3wr : wr.cell? ⟨w.heap.size + 1, 3, none⟩ = some (.int .i64 y.wlo) := cell_of_block H1.out 3 (by simp)
              have ex4wr : wr.cell? ⟨w.heap.size + 1, 4, none⟩ = some (.int .i64 y.whi) := cell_of_block H1.out 4 (by simp)
              have lxwr := (Array.getElem?_eq_some_iff.1 H1.out).1
              have eo0wr : wr.cell? ⟨w.heap.size + 1 + 1, 0, none⟩ = some (.int .i64 0) := cell_of_block H2.out 0 (by simp)
              have fo0wr := frozen_of_block H2.out 0
              have eo1wr : wr.cell? ⟨w.heap.size + 1 + 1, 1, none⟩ = some (.int .i64 0) := cell_of_block H2.out 1 (by simp)
              have fo1wr := frozen_of_block H2.out 1
              have eo2wr : wr.cell? ⟨w.heap.size + 1 + 1, 2, none⟩ = some (.int .i64 0) := cell_of_block H2.out 2 (by simp)
              have fo2wr := frozen_of_block H2.out 2
              have eo3wr : wr.cell? ⟨w.heap.size + 1 + 1, 3, none⟩ = some (.int .i64 0) := cell_of_block H2.out 3 (by simp)
              have fo3wr := frozen_of_block H2.out 3
              have eo4wr : wr.cell? ⟨w.heap.size + 1 + 1, 4, none⟩ = some (.int .i64 0) := cell_of_block H2.out 4 (by simp)
              have fo4wr := frozen_of_block H2.out 4
              have lowr := (Array.getElem?_eq_some_iff.1 H2.out).1
              go_wp2_with fail
              refine bodyPost_ret (v := .tuple #[.agg #[.int .i64 y.day, .int .i64 y.alo, .int .i64 y.ahi, .int .i64 y.wlo, .int .i64 y.whi], .int .i64 j, .int .i64 0]) (by simp [results, Try.results34, go_sem, *]) rfl ⟨by rw [HRE.out]; rfl, ?_⟩
              exact (((((HB.out).setCell (by simp <;> omega) _).setCell (by simp <;> omega) _).setCell (by simp <;> omega) _).setCell (by simp <;> omega) _).setCell (by simp <;> omega) _
end Go.Proofs.Ytljofnmgddfljaa
