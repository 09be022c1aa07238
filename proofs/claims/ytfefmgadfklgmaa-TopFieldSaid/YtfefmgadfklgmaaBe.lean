/- Contract of Mash. No conditions beyond each theorem's own. -/
import Derived.Test.YtfefmgadfklgmaaBd
set_option linter.unusedVariables false
set_option linter.unusedSimpArgs false
set_option linter.unusedSectionVars false
set_option linter.constructorNameAsVariable false
namespace Go.Proofs.Ytfefmgadfklgmaa
open Go.RowKit

attribute [local go_sem] gw_cell gw_frozen gw_size

def MOut.val (o : MOut) (e : Int) : Value := .tuple #[.agg #[.int .i64 o.sl, .int .i64 o.sh, .int .i64 o.vl, .int .i64 o.vh], .agg #[.int .i64 o.ll, .int .i64 o.lh], .int .i64 e]
theorem mash_bad {m : Msh} (h : mashB m = false) : mashE m = 1 ∧ mashO m = ⟨0, 0, 0, 0, 0, 0⟩ := by
  have e : mashE m = 1 := by unfold mashE; rw [h]; rfl
  exact ⟨e, by unfold mashO; rw [e]; rfl⟩
theorem mash_short {m : Msh} (h : mashB m = true) (hs : m.w - m.kh < 1) : mashE m = 10 ∧ mashO m = ⟨0, 0, 0, 0, 0, 0⟩ := by
  have e : mashE m = 10 := by unfold mashE; rw [if_pos h, if_pos hs]
  exact ⟨e, by unfold mashO; rw [e]; rfl⟩
theorem mash_ok {m : Msh} (h : mashB m = true) (hs : ¬ m.w - m.kh < 1) : mashE m = 0 ∧ mashO m = ⟨m.sl (m.w - m.kh), m.sh (m.w - m.kl), m.w - m.kh, m.w - m.kl, m.sl m.kl, m.sh m.kh⟩ := by
  have e : mashE m = 0 := by unfold mashE; rw [if_pos h, if_neg hs]
  exact ⟨e, by unfold mashO; rw [if_pos e]⟩

set_option maxRecDepth 100000 in
set_option maxHeartbeats 8000000 in
theorem Mash_any (m : Msh) (w : World) : Calls Try.prog 10 #[m.val] w fun e w' => e = .returned ((mashO m).val (mashE m)) ∧ Below w.heap.size w w' := by
  unfold Msh.val MOut.val
  obtain ⟨W1, hW1⟩ : ∃ W1, ((w.alloc (.cells #[.int .i64 m.g, .int .i64 m.w, .int .i64 m.xl, .int .i64 m.xh, .int .i64 m.hl, .int .i64 m.hh] 28)).alloc (.cells #[.int .i64 0, .int .i64 0, .int .i64 0, .int .i64 0] 49)).alloc (.cells #[.int .i64 0, .int .i64 0] 23) = W1 := ⟨_, rfl⟩
  have hBc : Below w.heap.size w W1 := by rw [← hW1]; exact ((below_alloc _ _).alloc (by simp) _).alloc (by simp <;> omega) _
  have zc0 : W1.heap[w.heap.size]? = some (.cells #[.int .i64 m.g, .int .i64 m.w, .int .i64 m.xl, .int .i64 m.xh, .int .i64 m.hl, .int .i64 m.hh] 28 (0, 0)) := by rw [← hW1]; exact alloc_keep (alloc_keep (alloc_at rfl))
  have zc1 : W1.heap[w.heap.size + 1]? = some (.cells #[.int .i64 0, .int .i64 0, .int .i64 0, .int .i64 0] 49 (0, 0)) := by rw [← hW1]; exact alloc_keep (alloc_at (by simp))
  have zc2 : W1.heap[w.heap.size + 1 + 1]? = some (.cells #[.int .i64 0, .int .i64 0] 23 (0, 0)) := by rw [← hW1]; exact alloc_at (by simp <;> omega)
  have c00 : W1.cell? ⟨w.heap.size, 0, none⟩ = some (.int .i64 m.g) := cell_of_block zc0 0 (by simp)
  have c01 : W1.cell? ⟨w.heap.size, 1, none⟩ = some (.int .i64 m.w) := cell_of_block zc0 1 (by simp)
  have c02 : W1.cell? ⟨w.heap.size, 2, none⟩ = some (.int .i64 m.xl) := cell_of_block zc0 2 (by simp)
  have c03 : W1.cell? ⟨w.heap.size, 3, none⟩ = some (.int .i64 m.xh) := cell_of_block zc0 3 (by simp)
  have c04 : W1.cell? ⟨w.heap.size, 4, none⟩ = some (.int .i64 m.hl) := cell_of_block zc0 4 (by simp)
  have c05 : W1.cell? ⟨w.heap.size, 5, none⟩ = some (.int .i64 m.hh) := cell_of_block zc0 5 (by simp)
  have c10 : W1.cell? ⟨w.heap.size + 1, 0, none⟩ = some (.int .i64 0) := cell_of_block zc1 0 (by simp)
  have c11 : W1.cell? ⟨w.heap.size + 1, 1, none⟩ = some (.int .i64 0) := cell_of_block zc1 1 (by simp)
  have c12 : W1.cell? ⟨w.heap.size + 1, 2, none⟩ = some (.int .i64 0) := cell_of_block zc1 2 (by simp)
  have c13 : W1.cell? ⟨w.heap.size + 1, 3, none⟩ = some (.int .i64 0) := cell_of_block zc1 3 (by simp)
  have c20 : W1.cell? ⟨w.heap.size + 1 + 1, 0, none⟩ = some (.int .i64 0) := cell_of_block zc2 0 (by simp)
  have c21 : W1.cell? ⟨w.heap.size + 1 + 1, 1, none⟩ = some (.int .i64 0) := cell_of_block zc2 1 (by simp)
  have lc0 := (Array.getElem?_eq_some_iff.1 zc0).1
  have lc1 := (Array.getElem?_eq_some_iff.1 zc1).1
  have lc2 := (Array.getElem?_eq_some_iff.1 zc2).1
  have fc10 := frozen_of_block zc1 0
  have fc11 := frozen_of_block zc1 1
  have fc12 := frozen_of_block zc1 2
  have fc13 := frozen_of_block zc1 3
  have fc20 := frozen_of_block zc2 0
  have fc21 := frozen_of_block zc2 1
  have Zc0 := Lib.hid zc0
  have Zc1 := Lib.hid zc1
  have Zc2 := Lib.hid zc2
  clear zc0 zc1 zc2
  have HBc := Lib.hid hBc; clear hBc
  have HWc := Lib.hid hW1; clear hW1
  cases t0 : inB m.g 1 16777216 with
  | false =>
    obtain ⟨e1, e2⟩ := mash_bad (m := m) (by unfold mashB; simp [t0])
    rw [e1, e2]
    have T0 := Lib.hid t0; clear t0
    clear e1 e2
    go_enter Try.func10, Try.ntmps10
    go_wp2_with fail
    rw [HWc.out]
    go_wp2_with fail
    refine (within_b m.g 1 16777216 _ T0.out).mono ?_
    rintro e w1 ⟨rfl, rfl⟩
    go_wp2_with fail
    go_region
    all_goals
      go_wp2_with fail
      refine bodyPost_ret (v := .tuple #[.agg #[.int .i64 0, .int .i64 0, .int .i64 0, .int .i64 0], .agg #[.int .i64 0, .int .i64 0], .int .i64 1]) (by simp [results, Try.results10, go_sem, *]) rfl ⟨rfl, ?_⟩
      exact (((((((HBc.out).setCell (by simp <;> omega) _).setCell (by simp <;> omega) _).setCell (by simp <;> omega) _).setCell (by simp <;> omega) _).setCell (by simp <;> omega) _).setCell (by simp <;> omega) _).drew
  | true =>
    cases t1 : inB m.w 1 16777216 with
    | false =>
      obtain ⟨e1, e2⟩ := mash_bad (m := m) (by unfold mashB; simp [t0, t1])
      rw [e1, e2]
      have T0 := Lib.hid t0; clear t0
      have T1 := Lib.hid t1; clear t1
      clear e1 e2
      go_enter Try.func10, Try.ntmps10
      go_wp2_with fail
      rw [HWc.out]
      go_wp2_with fail
      refine (within_b m.g 1 16777216 _ T0.out).mono ?_
      rintro e w1 ⟨rfl, rfl⟩
      go_wp2_with fail
      refine (within_b m.w 1 16777216 _ T1.out).mono ?_
      rintro e w1 ⟨rfl, rfl⟩
      go_wp2_with fail
      go_region
      all_goals
        go_wp2_with fail
        refine bodyPost_ret (v := .tuple #[.agg #[.int .i64 0, .int .i64 0, .int .i64 0, .int .i64 0], .agg #[.int .i64 0, .int .i64 0], .int .i64 1]) (by simp [results, Try.results10, go_sem, *]) rfl ⟨rfl, ?_⟩
        exact (((((((HBc.out).setCell (by simp <;> omega) _).setCell (by simp <;> omega) _).setCell (by simp <;> omega) _).setCell (by simp <;> omega) _).setCell (by simp <;> omega) _).setCell (by simp <;> omega) _).drew
    | true =>
      cases t2 : spanB m.xl m.xh 0 1000 with
      | false =>
        obtain ⟨e1, e2⟩ := mash_bad (m := m) (by unfold mashB; simp [t0, t1, t2])
        rw [e1, e2]
        have T0 := Lib.hid t0; clear t0
        have T1 := Lib.hid t1; clear t1
        have T2 := Lib.hid t2; clear t2
        clear e1 e2
        go_enter Try.func10, Try.ntmps10
        go_wp2_with fail
        rw [HWc.out]
        go_wp2_with fail
        refine (within_b m.g 1 16777216 _ T0.out).mono ?_
        rintro e w1 ⟨rfl, rfl⟩
        go_wp2_with fail
        refine (within_b m.w 1 16777216 _ T1.out).mono ?_
        rintro e w1 ⟨rfl, rfl⟩
        go_wp2_with fail
        refine (Calls.grown (sin_b m.xl m.xh 0 1000 _ T2.out)).mono ?_
        rintro e w1 ⟨rfl, z1, rfl⟩
        go_wp2_with fail
        go_region
        all_goals
          go_wp2_with fail
          refine bodyPost_ret (v := .tuple #[.agg #[.int .i64 0, .int .i64 0, .int .i64 0, .int .i64 0], .agg #[.int .i64 0, .int .i64 0], .int .i64 1]) (by simp [results, Try.results10, go_sem, *]) rfl ⟨rfl, ?_⟩
          exact (((((((HBc.out.gw z1).setCell (by simp <;> omega) _).setCell (by simp <;> omega) _).setCell (by simp <;> omega) _).setCell (by simp <;> omega) _).setCell (by simp <;> omega) _).setCell (by simp <;> omega) _).drew
      | true =>
        cases t3 : spanB m.hl m.hh 0 10000 with
        | false =>
          obtain ⟨e1, e2⟩ := mash_bad (m := m) (by unfold mashB; simp [t0, t1, t2, t3])
          rw [e1, e2]
          have T0 := Lib.hid t0; clear t0
          have T1 := Lib.hid t1; clear t1
          have T2 := Lib.hid t2; clear t2
          have T3 := Lib.hid t3; clear t3
          clear e1 e2
          go_enter Try.func10, Try.ntmps10
          go_wp2_with fail
          rw [HWc.out]
          go_wp2_with fail
          refine (within_b m.g 1 16777216 _ T0.out).mono ?_
          rintro e w1 ⟨rfl, rfl⟩
          go_wp2_with fail
          refine (within_b m.w 1 16777216 _ T1.out).mono ?_
          rintro e w1 ⟨rfl, rfl⟩
          go_wp2_with fail
          refine (Calls.grown (sin_b m.xl m.xh 0 1000 _ T2.out)).mono ?_
          rintro e w1 ⟨rfl, z1, rfl⟩
          go_wp2_with fail
          refine (Calls.gw_of (sin_b m.hl m.hh 0 10000 _ T3.out)).mono ?_
          rintro e w1 ⟨rfl, z2, rfl⟩
          go_wp2_with fail
          go_region
          all_goals
            go_wp2_with fail
            refine bodyPost_ret (v := .tuple #[.agg #[.int .i64 0, .int .i64 0, .int .i64 0, .int .i64 0], .agg #[.int .i64 0, .int .i64 0], .int .i64 1]) (by simp [results, Try.results10, go_sem, *]) rfl ⟨rfl, ?_⟩
            exact (((((((HBc.out.gw z2).setCell (by simp <;> omega) _).setCell (by simp <;> omega) _).setCell (by simp <;> omega) _).setCell (by simp <;> omega) _).setCell (by simp <;> omega) _).setCell (by simp <;> omega) _).drew
        | true =>
          have hm : mashB m = true := by unfold mashB; simp [t0, t1, t2, t3]
          have T0 := Lib.hid t0; clear t0
          have T1 := Lib.hid t1; clear t1
          have T2 := Lib.hid t2; clear t2
          have T3 := Lib.hid t3; clear t3
          obtain ⟨⟨p0, p1⟩, ⟨p2, p3⟩, k0, k1, k2⟩ := mash_held hm
          obtain ⟨-, ⟨w0, w1⟩, -, -⟩ := mashB_t hm
          have HM := Lib.hid hm
          have PA := fun w => part_any m.g m.g m.hl m.hh w p0 (by omega) p2 (by omega)
          rw [show m.g * m.hl / 1000 = m.kl from rfl, show upI (m.g * m.hh) 1000 = m.kh from rfl] at PA
          have PA' := Lib.hid PA; clear PA
          have KS := Lib.hid (@mash_short m hm)
          have KO := Lib.hid (@mash_ok m hm)
          clear hm p0 p1 p2 p3
          generalize m.kl = kl at *
          generalize m.kh = kh at *
          by_cases hs : m.w - kh < 1
          · obtain ⟨e1, e2⟩ := KS.out hs
            rw [e1, e2]
            clear e1 e2 KS KO
            go_enter Try.func10, Try.ntmps10
            go_wp2_with fail
            rw [HWc.out]
            go_wp2_with fail
            refine (within_b m.g 1 16777216 _ T0.out).mono ?_
            rintro e w1 ⟨rfl, rfl⟩
            go_wp2_with fail
            refine (within_b m.w 1 16777216 _ T1.out).mono ?_
            rintro e w1 ⟨rfl, rfl⟩
            go_wp2_with fail
            refine (Calls.grown (sin_b m.xl m.xh 0 1000 _ T2.out)).mono ?_
            rintro e w1 ⟨rfl, z1, rfl⟩
            go_wp2_with fail
            refine (Calls.gw_of (sin_b m.hl m.hh 0 10000 _ T3.out)).mono ?_
            rintro e w1 ⟨rfl, z2, rfl⟩
            go_upto_region 4 with (fail)
            obtain ⟨W2, hW2⟩ : ∃ W2, ((gw W1 z2)).alloc (.cells #[.int .i64 m.g, .int .i64 m.g] 86) = W2 := ⟨_, rfl⟩
            have hbW2 : Below W1.heap.size W1 W2 := by rw [← hW2]; exact (below_gw W1 z2).alloc (by simp [gw_size]) _
            have ZmW2 := Lib.hid ((hbW2.block _ (Array.getElem?_eq_some_iff.1 Zc0.out).1).trans Zc0.out)
            have ZaW2 := Lib.hid ((hbW2.block _ (Array.getElem?_eq_some_iff.1 Zc1.out).1).trans Zc1.out)
            have ZbW2 := Lib.hid ((hbW2.block _ (Array.getElem?_eq_some_iff.1 Zc2.out).1).trans Zc2.out)
            have zgW2 : W2.heap[W1.heap.size + z2.bs.size]? = some (.cells #[.int .i64 m.g, .int .i64 m.g] 86 (0, 0)) := by rw [← hW2]; exact alloc_at (by simp [gw_size])
            have ZgW2 := Lib.hid zgW2; clear zgW2
            have HBW2 := Lib.hid (thru hbW2 HBc.out)
            have SBW2 := Lib.hid hbW2; clear hbW2
            have HWW2 := Lib.hid hW2; clear hW2
            rw [HWW2.out]
            clear c00 c01 c02 c03 c04 c05 c10 c11 c12 c13 c20 c21 fc10 fc11 fc12 fc13 fc20 fc21
            have em0W2 : W2.cell? ⟨w.heap.size, 0, none⟩ = some (.int .i64 m.g) := cell_of_block ZmW2.out 0 (by simp)
            have em1W2 : W2.cell? ⟨w.heap.size, 1, none⟩ = some (.int .i64 m.w) := cell_of_block ZmW2.out 1 (by simp)
            have em2W2 : W2.cell? ⟨w.heap.size, 2, none⟩ = some (.int .i64 m.xl) := cell_of_block ZmW2.out 2 (by simp)
            have em3W2 : W2.cell? ⟨w.heap.size, 3, none⟩ = some (.int .i64 m.xh) := cell_of_block ZmW2.out 3 (by simp)
            have em4W2 : W2.cell? ⟨w.heap.size, 4, none⟩ = some (.int .i64 m.hl) := cell_of_block ZmW2.out 4 (by simp)
            have em5W2 : W2.cell? ⟨w.heap.size, 5, none⟩ = some (.int .i64 m.hh) := cell_of_block ZmW2.out 5 (by simp)
            have lmW2 := (Array.getElem?_eq_some_iff.1 ZmW2.out).1
            have eg0W2 : W2.cell? ⟨W1.heap.size + z2.bs.size, 0, none⟩ = some (.int .i64 m.g) := cell_of_block ZgW2.out 0 (by simp)
            have eg1W2 : W2.cell? ⟨W1.heap.size + z2.bs.size, 1, none⟩ = some (.int .i64 m.g) := cell_of_block ZgW2.out 1 (by simp)
            have lgW2 := (Array.getElem?_eq_some_iff.1 ZgW2.out).1
            go_wp2_with fail
            refine (Calls.grown (PA'.out _)).mono ?_
            rintro e w1 ⟨rfl, z3, rfl⟩
            go_upto_region 5 with (fail)
            obtain ⟨W3, hW3⟩ : ∃ W3, ((gw W2 z3)).alloc (.cells #[.int .i64 kl, .int .i64 kh] 86) = W3 := ⟨_, rfl⟩
            have hbW3 : Below W2.heap.size W2 W3 := by rw [← hW3]; exact (below_gw W2 z3).alloc (by simp [gw_size]) _
            have ZmW3 := Lib.hid ((hbW3.block _ (Array.getElem?_eq_some_iff.1 ZmW2.out).1).trans ZmW2.out)
            have ZaW3 := Lib.hid ((hbW3.block _ (Array.getElem?_eq_some_iff.1 ZaW2.out).1).trans ZaW2.out)
            have ZbW3 := Lib.hid ((hbW3.block _ (Array.getElem?_eq_some_iff.1 ZbW2.out).1).trans ZbW2.out)
            have ZgW3 := Lib.hid ((hbW3.block _ (Array.getElem?_eq_some_iff.1 ZgW2.out).1).trans ZgW2.out)
            have zhW3 : W3.heap[W2.heap.size + z3.bs.size]? = some (.cells #[.int .i64 kl, .int .i64 kh] 86 (0, 0)) := by rw [← hW3]; exact alloc_at (by simp [gw_size])
            have ZhW3 := Lib.hid zhW3; clear zhW3
            have HBW3 := Lib.hid (thru hbW3 HBW2.out)
            have SBW3 := Lib.hid hbW3; clear hbW3
            have HWW3 := Lib.hid hW3; clear hW3
            rw [HWW3.out]
            clear em0W2 em1W2 em2W2 em3W2 em4W2 em5W2 eg0W2 eg1W2
            have em0W3 : W3.cell? ⟨w.heap.size, 0, none⟩ = some (.int .i64 m.g) := cell_of_block ZmW3.out 0 (by simp)
            have em1W3 : W3.cell? ⟨w.heap.size, 1, none⟩ = some (.int .i64 m.w) := cell_of_block ZmW3.out 1 (by simp)
            have em2W3 : W3.cell? ⟨w.heap.size, 2, none⟩ = some (.int .i64 m.xl) := cell_of_block ZmW3.out 2 (by simp)
            have em3W3 : W3.cell? ⟨w.heap.size, 3, none⟩ = some (.int .i64 m.xh) := cell_of_block ZmW3.out 3 (by simp)
            have em4W3 : W3.cell? ⟨w.heap.size, 4, none⟩ = some (.int .i64 m.hl) := cell_of_block ZmW3.out 4 (by simp)
            have em5W3 : W3.cell? ⟨w.heap.size, 5, none⟩ = some (.int .i64 m.hh) := cell_of_block ZmW3.out 5 (by simp)
            have lmW3 := (Array.getElem?_eq_some_iff.1 ZmW3.out).1
            have eh0W3 : W3.cell? ⟨W2.heap.size + z3.bs.size, 0, none⟩ = some (.int .i64 kl) := cell_of_block ZhW3.out 0 (by simp)
            have eh1W3 : W3.cell? ⟨W2.heap.size + z3.bs.size, 1, none⟩ = some (.int .i64 kh) := cell_of_block ZhW3.out 1 (by simp)
            have lhW3 := (Array.getElem?_eq_some_iff.1 ZhW3.out).1
            go_upto_region 6 with (fail)
            obtain ⟨W4, hW4⟩ : ∃ W4, ((W3)).alloc (.cells #[.int .i64 (m.w - kh), .int .i64 (m.w - kl)] 86) = W4 := ⟨_, rfl⟩
            have hbW4 : Below W3.heap.size W3 W4 := by rw [← hW4]; exact (Below.refl _ W3).alloc (by simp [gw_size]) _
            have ZmW4 := Lib.hid ((hbW4.block _ (Array.getElem?_eq_some_iff.1 ZmW3.out).1).trans ZmW3.out)
            have ZaW4 := Lib.hid ((hbW4.block _ (Array.getElem?_eq_some_iff.1 ZaW3.out).1).trans ZaW3.out)
            have ZbW4 := Lib.hid ((hbW4.block _ (Array.getElem?_eq_some_iff.1 ZbW3.out).1).trans ZbW3.out)
            have ZgW4 := Lib.hid ((hbW4.block _ (Array.getElem?_eq_some_iff.1 ZgW3.out).1).trans ZgW3.out)
            have ZhW4 := Lib.hid ((hbW4.block _ (Array.getElem?_eq_some_iff.1 ZhW3.out).1).trans ZhW3.out)
            have zvW4 : W4.heap[W3.heap.size]? = some (.cells #[.int .i64 (m.w - kh), .int .i64 (m.w - kl)] 86 (0, 0)) := by rw [← hW4]; exact alloc_at (by simp [gw_size])
            have ZvW4 := Lib.hid zvW4; clear zvW4
            have HBW4 := Lib.hid (thru hbW4 HBW3.out)
            have SBW4 := Lib.hid hbW4; clear hbW4
            have HWW4 := Lib.hid hW4; clear hW4
            rw [HWW4.out]
            clear em0W3 em1W3 em2W3 em3W3 em4W3 em5W3 eh0W3 eh1W3
            have ev0W4 : W4.cell? ⟨W3.heap.size, 0, none⟩ = some (.int .i64 (m.w - kh)) := cell_of_block ZvW4.out 0 (by simp)
            have ev1W4 : W4.cell? ⟨W3.heap.size, 1, none⟩ = some (.int .i64 (m.w - kl)) := cell_of_block ZvW4.out 1 (by simp)
            have lvW4 := (Array.getElem?_eq_some_iff.1 ZvW4.out).1
            have ea0W4 : W4.cell? ⟨w.heap.size + 1, 0, none⟩ = some (.int .i64 0) := cell_of_block ZaW4.out 0 (by simp)
            have fa0W4 := frozen_of_block ZaW4.out 0
            have ea1W4 : W4.cell? ⟨w.heap.size + 1, 1, none⟩ = some (.int .i64 0) := cell_of_block ZaW4.out 1 (by simp)
            have fa1W4 := frozen_of_block ZaW4.out 1
            have ea2W4 : W4.cell? ⟨w.heap.size + 1, 2, none⟩ = some (.int .i64 0) := cell_of_block ZaW4.out 2 (by simp)
            have fa2W4 := frozen_of_block ZaW4.out 2
            have ea3W4 : W4.cell? ⟨w.heap.size + 1, 3, none⟩ = some (.int .i64 0) := cell_of_block ZaW4.out 3 (by simp)
            have fa3W4 := frozen_of_block ZaW4.out 3
            have laW4 := (Array.getElem?_eq_some_iff.1 ZaW4.out).1
            have eb0W4 : W4.cell? ⟨w.heap.size + 1 + 1, 0, none⟩ = some (.int .i64 0) := cell_of_block ZbW4.out 0 (by simp)
            have fb0W4 := frozen_of_block ZbW4.out 0
            have eb1W4 : W4.cell? ⟨w.heap.size + 1 + 1, 1, none⟩ = some (.int .i64 0) := cell_of_block ZbW4.out 1 (by simp)
            have fb1W4 := frozen_of_block ZbW4.out 1
            have lbW4 := (Array.getElem?_eq_some_iff.1 ZbW4.out).1
            go_wp2_with fail
            go_region
            all_goals
              go_wp2_with fail
              refine bodyPost_ret (v := .tuple #[.agg #[.int .i64 0, .int .i64 0, .int .i64 0, .int .i64 0], .agg #[.int .i64 0, .int .i64 0], .int .i64 10]) (by simp [results, Try.results10, go_sem, *]) rfl ⟨rfl, ?_⟩
              exact (((((((HBW4.out).setCell (by simp <;> omega) _).setCell (by simp <;> omega) _).setCell (by simp <;> omega) _).setCell (by simp <;> omega) _).setCell (by simp <;> omega) _).setCell (by simp <;> omega) _).drew
          · obtain ⟨e1, e2⟩ := KO.out hs
            rw [e1, e2]
            clear e1 e2 KS KO
            dsimp only
            go_enter Try.func10, Try.ntmps10
            go_wp2_with fail
            rw [HWc.out]
            go_wp2_with fail
            refine (within_b m.g 1 16777216 _ T0.out).mono ?_
            rintro e w1 ⟨rfl, rfl⟩
            go_wp2_with fail
            refine (within_b m.w 1 16777216 _ T1.out).mono ?_
            rintro e w1 ⟨rfl, rfl⟩
            go_wp2_with fail
            refine (Calls.grown (sin_b m.xl m.xh 0 1000 _ T2.out)).mono ?_
            rintro e w1 ⟨rfl, z1, rfl⟩
            go_wp2_with fail
            refine (Calls.gw_of (sin_b m.hl m.hh 0 10000 _ T3.out)).mono ?_
            rintro e w1 ⟨rfl, z2, rfl⟩
            go_upto_region 4 with (fail)
            obtain ⟨W2, hW2⟩ : ∃ W2, ((gw W1 z2)).alloc (.cells #[.int .i64 m.g, .int .i64 m.g] 86) = W2 := ⟨_, rfl⟩
            have hbW2 : Below W1.heap.size W1 W2 := by rw [← hW2]; exact (below_gw W1 z2).alloc (by simp [gw_size]) _
            have ZmW2 := Lib.hid ((hbW2.block _ (Array.getElem?_eq_some_iff.1 Zc0.out).1).trans Zc0.out)
            have ZaW2 := Lib.hid ((hbW2.block _ (Array.getElem?_eq_some_iff.1 Zc1.out).1).trans Zc1.out)
            have ZbW2 := Lib.hid ((hbW2.block _ (Array.getElem?_eq_some_iff.1 Zc2.out).1).trans Zc2.out)
            have zgW2 : W2.heap[W1.heap.size + z2.bs.size]? = some (.cells #[.int .i64 m.g, .int .i64 m.g] 86 (0, 0)) := by rw [← hW2]; exact alloc_at (by simp [gw_size])
            have ZgW2 := Lib.hid zgW2; clear zgW2
            have HBW2 := Lib.hid (thru hbW2 HBc.out)
            have SBW2 := Lib.hid hbW2; clear hbW2
            have HWW2 := Lib.hid hW2; clear hW2
            rw [HWW2.out]
            clear c00 c01 c02 c03 c04 c05 c10 c11 c12 c13 c20 c21 fc10 fc11 fc12 fc13 fc20 fc21
            have em0W2 : W2.cell? ⟨w.heap.size, 0, none⟩ = some (.int .i64 m.g) := cell_of_block ZmW2.out 0 (by simp)
            have em1W2 : W2.cell? ⟨w.heap.size, 1, none⟩ = some (.int .i64 m.w) := cell_of_block ZmW2.out 1 (by simp)
            have em2W2 : W2.cell? ⟨w.heap.size, 2, none⟩ = some (.int .i64 m.xl) := cell_of_block ZmW2.out 2 (by simp)
            have em3W2 : W2.cell? ⟨w.heap.size, 3, none⟩ = some (.int .i64 m.xh) := cell_of_block ZmW2.out 3 (by simp)
            have em4W2 : W2.cell? ⟨w.heap.size, 4, none⟩ = some (.int .i64 m.hl) := cell_of_block ZmW2.out 4 (by simp)
            have em5W2 : W2.cell? ⟨w.heap.size, 5, none⟩ = some (.int .i64 m.hh) := cell_of_block ZmW2.out 5 (by simp)
            have lmW2 := (Array.getElem?_eq_some_iff.1 ZmW2.out).1
            have eg0W2 : W2.cell? ⟨W1.heap.size + z2.bs.size, 0, none⟩ = some (.int .i64 m.g) := cell_of_block ZgW2.out 0 (by simp)
            have eg1W2 : W2.cell? ⟨W1.heap.size + z2.bs.size, 1, none⟩ = some (.int .i64 m.g) := cell_of_block ZgW2.out 1 (by simp)
            have lgW2 := (Array.getElem?_eq_some_iff.1 ZgW2.out).1
            go_wp2_with fail
            refine (Calls.grown (PA'.out _)).mono ?_
            rintro e w1 ⟨rfl, z3, rfl⟩
            go_upto_region 5 with (fail)
            obtain ⟨W3, hW3⟩ : ∃ W3, ((gw W2 z3)).alloc (.cells #[.int .i64 kl, .int .i64 kh] 86) = W3 := ⟨_, rfl⟩
            have hbW3 : Below W2.heap.size W2 W3 := by rw [← hW3]; exact (below_gw W2 z3).alloc (by simp [gw_size]) _
            have ZmW3 := Lib.hid ((hbW3.block _ (Array.getElem?_eq_some_iff.1 ZmW2.out).1).trans ZmW2.out)
            have ZaW3 := Lib.hid ((hbW3.block _ (Array.getElem?_eq_some_iff.1 ZaW2.out).1).trans ZaW2.out)
            have ZbW3 := Lib.hid ((hbW3.block _ (Array.getElem?_eq_some_iff.1 ZbW2.out).1).trans ZbW2.out)
            have ZgW3 := Lib.hid ((hbW3.block _ (Array.getElem?_eq_some_iff.1 ZgW2.out).1).trans ZgW2.out)
            have zhW3 : W3.heap[W2.heap.size + z3.bs.size]? = some (.cells #[.int .i64 kl, .int .i64 kh] 86 (0, 0)) := by rw [← hW3]; exact alloc_at (by simp [gw_size])
            have ZhW3 := Lib.hid zhW3; clear zhW3
            have HBW3 := Lib.hid (thru hbW3 HBW2.out)
            have SBW3 := Lib.hid hbW3; clear hbW3
            have HWW3 := Lib.hid hW3; clear hW3
            rw [HWW3.out]
            clear em0W2 em1W2 em2W2 em3W2 em4W2 em5W2 eg0W2 eg1W2
            have em0W3 : W3.cell? ⟨w.heap.size, 0, none⟩ = some (.int .i64 m.g) := cell_of_block ZmW3.out 0 (by simp)
            have em1W3 : W3.cell? ⟨w.heap.size, 1, none⟩ = some (.int .i64 m.w) := cell_of_block ZmW3.out 1 (by simp)
            have em2W3 : W3.cell? ⟨w.heap.size, 2, none⟩ = some (.int .i64 m.xl) := cell_of_block ZmW3.out 2 (by simp)
            have em3W3 : W3.cell? ⟨w.heap.size, 3, none⟩ = some (.int .i64 m.xh) := cell_of_block ZmW3.out 3 (by simp)
            have em4W3 : W3.cell? ⟨w.heap.size, 4, none⟩ = some (.int .i64 m.hl) := cell_of_block ZmW3.out 4 (by simp)
            have em5W3 : W3.cell? ⟨w.heap.size, 5, none⟩ = some (.int .i64 m.hh) := cell_of_block ZmW3.out 5 (by simp)
            have lmW3 := (Array.getElem?_eq_some_iff.1 ZmW3.out).1
            have eh0W3 : W3.cell? ⟨W2.heap.size + z3.bs.size, 0, none⟩ = some (.int .i64 kl) := cell_of_block ZhW3.out 0 (by simp)
            have eh1W3 : W3.cell? ⟨W2.heap.size + z3.bs.size, 1, none⟩ = some (.int .i64 kh) := cell_of_block ZhW3.out 1 (by simp)
            have lhW3 := (Array.getElem?_eq_some_iff.1 ZhW3.out).1
            go_upto_region 6 with (fail)
            obtain ⟨W4, hW4⟩ : ∃ W4, ((W3)).alloc (.cells #[.int .i64 (m.w - kh), .int .i64 (m.w - kl)] 86) = W4 := ⟨_, rfl⟩
            have hbW4 : Below W3.heap.size W3 W4 := by rw [← hW4]; exact (Below.refl _ W3).alloc (by simp [gw_size]) _
            have ZmW4 := Lib.hid ((hbW4.block _ (Array.getElem?_eq_some_iff.1 ZmW3.out).1).trans ZmW3.out)
            have ZaW4 := Lib.hid ((hbW4.block _ (Array.getElem?_eq_some_iff.1 ZaW3.out).1).trans ZaW3.out)
            have ZbW4 := Lib.hid ((hbW4.block _ (Array.getElem?_eq_some_iff.1 ZbW3.out).1).trans ZbW3.out)
            have ZgW4 := Lib.hid ((hbW4.block _ (Array.getElem?_eq_some_iff.1 ZgW3.out).1).trans ZgW3.out)
            have ZhW4 := Lib.hid ((hbW4.block _ (Array.getElem?_eq_some_iff.1 ZhW3.out).1).trans ZhW3.out)
            have zvW4 : W4.heap[W3.heap.size]? = some (.cells #[.int .i64 (m.w - kh), .int .i64 (m.w - kl)] 86 (0, 0)) := by rw [← hW4]; exact alloc_at (by simp [gw_size])
            have ZvW4 := Lib.hid zvW4; clear zvW4
            have HBW4 := Lib.hid (thru hbW4 HBW3.out)
            have SBW4 := Lib.hid hbW4; clear hbW4
            have HWW4 := Lib.hid hW4; clear hW4
            rw [HWW4.out]
            clear em0W3 em1W3 em2W3 em3W3 em4W3 em5W3 eh0W3 eh1W3
            have ev0W4 : W4.cell? ⟨W3.heap.size, 0, none⟩ = some (.int .i64 (m.w - kh)) := cell_of_block ZvW4.out 0 (by simp)
            have ev1W4 : W4.cell? ⟨W3.heap.size, 1, none⟩ = some (.int .i64 (m.w - kl)) := cell_of_block ZvW4.out 1 (by simp)
            have lvW4 := (Array.getElem?_eq_some_iff.1 ZvW4.out).1
            have hmf : ∀ (fn : Fn) (first cap : Array Value) (w : World), (Instr.makeFunc fn first cap).run Try.prog w = .ok (.func fn first cap) w := fun _ _ _ _ => rfl
            go_upto_region 9 with (fail)
            clear ev0W4 ev1W4
            have lm4 := (Array.getElem?_eq_some_iff.1 ZmW4.out).1
            have lb4 := (Array.getElem?_eq_some_iff.1 ZbW4.out).1
            have zb := SBW2.out.size
            have zc := SBW3.out.size
            have zd := SBW4.out.size
            have ze := HBc.out.size
            have lcm := (Array.getElem?_eq_some_iff.1 Zc2.out).1
            have lg2 := (Array.getElem?_eq_some_iff.1 ZgW2.out).1
            have lh3 := (Array.getElem?_eq_some_iff.1 ZhW3.out).1
            refine wp_region_put2 [true, true, true, true, true, true, true, true, false, false, true] ⟨8, 2, 63, 49, (w.heap.size + 1), #[.int .i64 0, .int .i64 0, .int .i64 0, .int .i64 0], #[.int .i64 (m.sl (m.w - kh)), .int .i64 (m.sh (m.w - kl)), .int .i64 (m.w - kh), .int .i64 (m.w - kl)]⟩ ⟨9, 3, 66, 23, (w.heap.size + 1 + 1), #[.int .i64 0, .int .i64 0], #[.int .i64 (m.sl kl), .int .i64 (m.sh kh)]⟩ (by kernel_rfl) rfl (by kernel_rfl) (fun s hs => by injection (show some _ = some s from hs) with hs; subst hs; rfl) (fun s hs => by injection (show some _ = some s from hs) with hs; subst hs; rfl) (by first | omega | (dsimp only; omega)) ZaW4.out ZbW4.out (by kernel_rfl) (by kernel_rfl) rfl rfl (by simp [Value.oneCell']) (by simp [Value.oneCell']) ?_
            apply Exists.intro
            refine ⟨fun Wx hN hZ S hS hx => ?_, ?_, ?_, fun wx PX => ?_⟩
            · haveI := hx
              clear hZ
              have ym := hN _ _ (by first | omega | (dsimp only; omega)) (by first | omega | (dsimp only; omega)) ZmW4.out
              have ym0 : Wx.cell? ⟨w.heap.size, 0, none⟩ = some (.int .i64 m.g) := cell_of_block ym 0 (by simp)
              have ym1 : Wx.cell? ⟨w.heap.size, 1, none⟩ = some (.int .i64 m.w) := cell_of_block ym 1 (by simp)
              have ym2 : Wx.cell? ⟨w.heap.size, 2, none⟩ = some (.int .i64 m.xl) := cell_of_block ym 2 (by simp)
              have ym3 : Wx.cell? ⟨w.heap.size, 3, none⟩ = some (.int .i64 m.xh) := cell_of_block ym 3 (by simp)
              have ym4 : Wx.cell? ⟨w.heap.size, 4, none⟩ = some (.int .i64 m.hl) := cell_of_block ym 4 (by simp)
              have ym5 : Wx.cell? ⟨w.heap.size, 5, none⟩ = some (.int .i64 m.hh) := cell_of_block ym 5 (by simp)
              have ylm := (Array.getElem?_eq_some_iff.1 ym).1
              have Ym := Lib.hid ym; clear ym
              have yg := hN _ _ (by first | omega | (dsimp only; omega)) (by first | omega | (dsimp only; omega)) ZgW4.out
              have yg0 : Wx.cell? ⟨W1.heap.size + z2.bs.size, 0, none⟩ = some (.int .i64 m.g) := cell_of_block yg 0 (by simp)
              have yg1 : Wx.cell? ⟨W1.heap.size + z2.bs.size, 1, none⟩ = some (.int .i64 m.g) := cell_of_block yg 1 (by simp)
              have ylg := (Array.getElem?_eq_some_iff.1 yg).1
              have Yg := Lib.hid yg; clear yg
              have yh := hN _ _ (by first | omega | (dsimp only; omega)) (by first | omega | (dsimp only; omega)) ZhW4.out
              have yh0 : Wx.cell? ⟨W2.heap.size + z3.bs.size, 0, none⟩ = some (.int .i64 kl) := cell_of_block yh 0 (by simp)
              have yh1 : Wx.cell? ⟨W2.heap.size + z3.bs.size, 1, none⟩ = some (.int .i64 kh) := cell_of_block yh 1 (by simp)
              have ylh := (Array.getElem?_eq_some_iff.1 yh).1
              have Yh := Lib.hid yh; clear yh
              have yv := hN _ _ (by first | omega | (dsimp only; omega)) (by first | omega | (dsimp only; omega)) ZvW4.out
              have yv0 : Wx.cell? ⟨W3.heap.size, 0, none⟩ = some (.int .i64 (m.w - kh)) := cell_of_block yv 0 (by simp)
              have yv1 : Wx.cell? ⟨W3.heap.size, 1, none⟩ = some (.int .i64 (m.w - kl)) := cell_of_block yv 1 (by simp)
              have ylv := (Array.getElem?_eq_some_iff.1 yv).1
              have Yv := Lib.hid yv; clear yv
              have S1 := Lib.hid (fun W' (hb : Below Wx.heap.size Wx W') => sugar_any (W1.heap.size + z2.bs.size) (w.heap.size) m (m.w - kh) (m.w - kl) W' HM.out ((hb.block _ ylg).trans Yg.out) ((hb.block _ ylm).trans Ym.out) (by omega) (by omega) (by omega) (by omega))
              have S2 := Lib.hid (fun W' (hb : Below Wx.heap.size Wx W') => sugar_any (W1.heap.size + z2.bs.size) (w.heap.size) m kl kh W' HM.out ((hb.block _ ylg).trans Yg.out) ((hb.block _ ylm).trans Ym.out) (by omega) (by omega) (by omega) (by omega))
              simp only [pickM]
              repeat (go_big_quiet_step (first | (go_at_call 27; with_reducible exact Calls.gwS hS (S1.out _ (below_gw Wx _))) | (go_at_call 27; with_reducible exact Calls.gwS hS (S2.out _ (below_gw Wx _)))))
              exact wpQuiet_nil rfl
            · exact ⟨rfl, rfl⟩
            · exact ⟨rfl, rfl⟩
            · have LW := Lib.hid (PX.below HBW4.out (Nat.le_refl _) (by first | omega | (dsimp only; omega)) (by first | omega | (dsimp only; omega)))
              have r1 := PX.b1
              have r2 := PX.b2
              clear PX
              dsimp only at r1 r2
              have a0 := cell_of_block r1 0 (by simp)
              have a1 := cell_of_block r1 1 (by simp)
              have a2 := cell_of_block r1 2 (by simp)
              have a3 := cell_of_block r1 3 (by simp)
              have b0 := cell_of_block r2 0 (by simp)
              have b1 := cell_of_block r2 1 (by simp)
              simp at a0 a1 a2 a3 b0 b1
              clear r1 r2
              go_wp2_with fail
              refine bodyPost_ret (v := .tuple #[.agg #[.int .i64 (m.sl (m.w - kh)), .int .i64 (m.sh (m.w - kl)), .int .i64 (m.w - kh), .int .i64 (m.w - kl)], .agg #[.int .i64 (m.sl kl), .int .i64 (m.sh kh)], .int .i64 0]) (by simp [results, Try.results10, go_sem, *]) rfl ⟨rfl, LW.out⟩
end Go.Proofs.Ytfefmgadfklgmaa
