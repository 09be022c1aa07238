/- Contract of the reference's next. No conditions beyond each theorem's own. -/
import Derived.Test.YtljofnmgddfljaaBo
set_option linter.unusedVariables false
set_option linter.unusedSimpArgs false
set_option linter.unusedSectionVars false
set_option linter.constructorNameAsVariable false
namespace Go.Proofs.Ytljofnmgddfljaa
open Go.RowKit

attribute [local go_sem] gw_cell gw_frozen gw_size

set_option maxRecDepth 100000 in
set_option maxHeartbeats 4000000 in
theorem rnext_any (C : Clim) (x : Cont) (aS : Option Addr) (k cS : Nat) (F G : Nat → Int) (w : World) (hC : C.In w) (hS : SpansAt w aS k F G) (hB : climB C = true) (hst : staysB C.nA k F G = true) (hx : contB x = true) (h0 : F 0 ≤ x.day) (hd : x.day < 65536) :
    Calls Try.prog 69 #[.agg #[.int .i64 C.days, .slice C.aA C.nA C.cA, .slice C.aW C.nW C.cW], x.val, .slice aS k cS] w fun e w' => e = .returned (x.next C F G k).val ∧ Below w.heap.size w w' := by
  obtain ⟨sn, sr, sm⟩ := staysB_t hst
  obtain ⟨fl, fe⟩ := floorOf_lt hst (climB_t hB).2.1.1 x.day
  have LB : 0 < lb F (x.day + 1) k := lb_pos (by omega) h0
  obtain ⟨dd, ⟨x0, x1, x2⟩, y0, y1, y2⟩ := contB_t hx
  obtain ⟨_, ⟨na1, na2⟩, nw, ⟨nb1, nb2⟩, ra, rw'⟩ := climB_t hB
  obtain ⟨p1, p2, p3⟩ := (ra _ fl).2 (seasonOf C x.day) (seasonOf_lt (by omega))
  obtain ⟨q1, q2, q3⟩ := (rw' _ fl).2 (seasonOf C x.day) (seasonOf_lt (by omega))
  have NX : (x.next C F G k).val = .agg #[.int .i64 (x.day + 1), .int .i64 (leftLo x.alo ((C.RA (floorOf F G k x.day)).B (seasonOf C x.day))), .int .i64 (leftHi x.ahi ((C.RA (floorOf F G k x.day)).A (seasonOf C x.day))), .int .i64 (leftLo x.wlo ((C.RW (floorOf F G k x.day)).B (seasonOf C x.day))), .int .i64 (leftHi x.whi ((C.RW (floorOf F G k x.day)).A (seasonOf C x.day)))] := rfl
  rw [NX]
  clear NX
  unfold Cont.val
  obtain ⟨W1, hW1⟩ : ∃ W1, ((w.alloc (.cells #[.int .i64 C.days, .slice C.aA C.nA C.cA, .slice C.aW C.nW C.cW] 24)).alloc (.cells #[.int .i64 x.day, .int .i64 x.alo, .int .i64 x.ahi, .int .i64 x.wlo, .int .i64 x.whi] 28)).alloc (.cells #[.int .i64 0, .int .i64 0, .int .i64 0, .int .i64 0, .int .i64 0] 28) = W1 := ⟨_, rfl⟩
  have hBc : Below w.heap.size w W1 := by rw [← hW1]; exact ((below_alloc _ _).alloc (by simp) _).alloc (by simp <;> omega) _
  have zc0 : W1.heap[w.heap.size]? = some (.cells #[.int .i64 C.days, .slice C.aA C.nA C.cA, .slice C.aW C.nW C.cW] 24 (0, 0)) := by rw [← hW1]; exact alloc_keep (alloc_keep (alloc_at rfl))
  have zc1 : W1.heap[w.heap.size + 1]? = some (.cells #[.int .i64 x.day, .int .i64 x.alo, .int .i64 x.ahi, .int .i64 x.wlo, .int .i64 x.whi] 28 (0, 0)) := by rw [← hW1]; exact alloc_keep (alloc_at (by simp))
  have zc2 : W1.heap[w.heap.size + 1 + 1]? = some (.cells #[.int .i64 0, .int .i64 0, .int .i64 0, .int .i64 0, .int .i64 0] 28 (0, 0)) := by rw [← hW1]; exact alloc_at (by simp <;> omega)
  have c00 : W1.cell? ⟨w.heap.size, 0, none⟩ = some (.int .i64 C.days) := cell_of_block zc0 0 (by simp)
  have c01 : W1.cell? ⟨w.heap.size, 1, none⟩ = some (.slice C.aA C.nA C.cA) := cell_of_block zc0 1 (by simp)
  have c02 : W1.cell? ⟨w.heap.size, 2, none⟩ = some (.slice C.aW C.nW C.cW) := cell_of_block zc0 2 (by simp)
  have c10 : W1.cell? ⟨w.heap.size + 1, 0, none⟩ = some (.int .i64 x.day) := cell_of_block zc1 0 (by simp)
  have c11 : W1.cell? ⟨w.heap.size + 1, 1, none⟩ = some (.int .i64 x.alo) := cell_of_block zc1 1 (by simp)
  have c12 : W1.cell? ⟨w.heap.size + 1, 2, none⟩ = some (.int .i64 x.ahi) := cell_of_block zc1 2 (by simp)
  have c13 : W1.cell? ⟨w.heap.size + 1, 3, none⟩ = some (.int .i64 x.wlo) := cell_of_block zc1 3 (by simp)
  have c14 : W1.cell? ⟨w.heap.size + 1, 4, none⟩ = some (.int .i64 x.whi) := cell_of_block zc1 4 (by simp)
  have c20 : W1.cell? ⟨w.heap.size + 1 + 1, 0, none⟩ = some (.int .i64 0) := cell_of_block zc2 0 (by simp)
  have c21 : W1.cell? ⟨w.heap.size + 1 + 1, 1, none⟩ = some (.int .i64 0) := cell_of_block zc2 1 (by simp)
  have c22 : W1.cell? ⟨w.heap.size + 1 + 1, 2, none⟩ = some (.int .i64 0) := cell_of_block zc2 2 (by simp)
  have c23 : W1.cell? ⟨w.heap.size + 1 + 1, 3, none⟩ = some (.int .i64 0) := cell_of_block zc2 3 (by simp)
  have c24 : W1.cell? ⟨w.heap.size + 1 + 1, 4, none⟩ = some (.int .i64 0) := cell_of_block zc2 4 (by simp)
  have lc0 := (Array.getElem?_eq_some_iff.1 zc0).1
  have lc1 := (Array.getElem?_eq_some_iff.1 zc1).1
  have lc2 := (Array.getElem?_eq_some_iff.1 zc2).1
  have Zc2 := Lib.hid zc2
  clear zc0 zc1 zc2
  have HBc := Lib.hid hBc; clear hBc
  have HWc := Lib.hid hW1; clear hW1
  have FL : ∀ z, Calls Try.prog 90 #[.slice aS k cS, .int .i64 x.day] (gw W1 z) fun e w' => e = .returned (.int .i64 (floorOf F G k x.day : Nat)) ∧ gw W1 z = w' := fun z => by
    have := rfloor_any aS k cS x.day F G (gw W1 z) (by omega) ((hS.below HBc.out).below (below_gw W1 z)) sm
    rwa [show floR F G k x.day = (floorOf F G k x.day : Nat) from by unfold floR; rw [if_neg (by omega)]; exact fe] at this
  have SH := fun z => rShares_any C (floorOf F G k x.day) x.day (gw W1 z) ((hC.below HBc.out).below (below_gw W1 z)) hB fl dd.1 dd.2
  clear hC hS hB hst hx sr sm LB ra rw' fe fl h0 nw na1 na2 nb1 nb2 sn
  generalize (C.RA (floorOf F G k x.day)).A (seasonOf C x.day) = p at *
  generalize (C.RA (floorOf F G k x.day)).B (seasonOf C x.day) = q at *
  generalize (C.RW (floorOf F G k x.day)).A (seasonOf C x.day) = r at *
  generalize (C.RW (floorOf F G k x.day)).B (seasonOf C x.day) = t at *
  generalize floorOf F G k x.day = f at *
  have FL' := Lib.hid FL; clear FL
  have SH' := Lib.hid SH; clear SH
  go_enter Try.func69, Try.ntmps69
  go_wp2_with fail
  rw [HWc.out]
  refine wp_region_box2 [true, true, true, true, true, true, true, true, true, true, true, false, false, false, false] 11 13 12 14 #[.int .i64 0, .int .i64 0] #[.int .i64 p, .int .i64 q] #[.int .i64 0, .int .i64 0] #[.int .i64 r, .int .i64 t] (by kernel_rfl) rfl rfl rfl rfl rfl (by kernel_rfl) rfl (by kernel_rfl) rfl (by kernel_rfl) rfl infoSpan rfl rfl (by simp [Value.oneCell']) infoSpan rfl rfl (by simp [Value.oneCell']) ?_
  apply Exists.intro
  refine ⟨fun S hS hx => ?_, ?_, ?_, ?_⟩
  · obtain ⟨x0, hx0⟩ := hx
    haveI : Nonempty (GrewS W1 S) := ⟨⟨x0, hx0⟩⟩
    simp only [pickM]
    repeat (go_big_quiet_step (first | (go_at_call 90; exact Calls.gwS_same (FL'.out _)) | (go_at_call 60; exact Calls.gwS hS (SH'.out _))))
    exact wpQuiet_nil rfl
  · rfl
  · rfl
  · intro B B' w5 hBw hBw' hBB hblk hblk' hb5
    have s0 : w5.cell? ⟨B, 0, none⟩ = some (.int .i64 p) := cell_of_block hblk 0 (by simp)
    have s1 : w5.cell? ⟨B, 1, none⟩ = some (.int .i64 q) := cell_of_block hblk 1 (by simp)
    have t0 : w5.cell? ⟨B', 0, none⟩ = some (.int .i64 r) := cell_of_block hblk' 0 (by simp)
    have t1 : w5.cell? ⟨B', 1, none⟩ = some (.int .i64 t) := cell_of_block hblk' 1 (by simp)
    have lB := (Array.getElem?_eq_some_iff.1 hblk).1
    have lB' := (Array.getElem?_eq_some_iff.1 hblk').1
    have e0 := below_cell hb5 c10
    have e1 := below_cell hb5 c11
    have e2 := below_cell hb5 c12
    have e3 := below_cell hb5 c13
    have e4 := below_cell hb5 c14
    have l1 := Nat.lt_of_lt_of_le lc1 hb5.size
    have Z2 := Lib.hid ((hb5.block _ lc2).trans Zc2.out)
    have l2 := Nat.lt_of_lt_of_le lc2 hb5.size
    have B5 := Lib.hid (thru hb5 HBc.out)
    clear hblk hblk' hb5 hBw hBw' hBB c00 c01 c02 c10 c11 c12 c13 c14 c20 c21 c22 c23 c24
    go_upto_region 2 with (fail)
    simp only [Act.put, List.setIfInBounds_toArray, List.set_cons_succ, List.set_cons_zero]
    refine wp_region_gw_tail 12 (by kernel_rfl) (by kernel_rfl) ?_
    simp only [List.take_succ_cons, List.take_zero]
    repeat (go_big_quiet_step ((go_at_call 91; first | (with_reducible exact Calls.gw_of (rleft_any x.alo x.ahi p q _ x0 x1 x2 p1 p2 p3)) | (with_reducible exact Calls.gw_of (rleft_any x.wlo x.whi r t _ y0 y1 y2 q1 q2 q3)))))
    refine wpQuiet_nil ?_
    rintro _ ⟨z, rfl⟩
    have z2 := ((below_gw w5 z).block _ l2).trans Z2.out
    have g0 := cell_of_block z2 0 (by simp)
    have g1 := cell_of_block z2 1 (by simp)
    have g2 := cell_of_block z2 2 (by simp)
    have g3 := cell_of_block z2 3 (by simp)
    have g4 := cell_of_block z2 4 (by simp)
    have f0 := frozen_of_block z2 0
    have f1 := frozen_of_block z2 1
    have f2 := frozen_of_block z2 2
    have f3 := frozen_of_block z2 3
    have f4 := frozen_of_block z2 4
    have BZ := Lib.hid (B5.out.gw z)
    clear z2 s0 s1 t0 t1 e0 e1 e2 e3 e4
    simp only [List.drop_succ_cons, List.drop_zero]
    obtain ⟨V, hV⟩ : ∃ V, gw w5 z = V := ⟨_, rfl⟩
    rw [hV] at g0 g1 g2 g3 g4 f0 f1 f2 f3 f4 BZ ⊢
    clear hV
    go_wp2_with fail
    refine bodyPost_ret (v := .agg #[.int .i64 (x.day + 1), .int .i64 (leftLo x.alo q), .int .i64 (leftHi x.ahi p), .int .i64 (leftLo x.wlo t), .int .i64 (leftHi x.whi r)]) (by simp [results, Try.results69, go_sem, *]) rfl ⟨rfl, ?_⟩
    exact (((((BZ.out.setCell (by simp <;> omega) _).setCell (by simp <;> omega) _).setCell (by simp <;> omega) _).setCell (by simp <;> omega) _).setCell (by simp <;> omega) _)
end Go.Proofs.Ytljofnmgddfljaa
