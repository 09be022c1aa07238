/- Contracts of the reference's Shares, next. No conditions beyond each theorem's own. -/
import Derived.Test.YtljofnmgddfljaaBn
set_option linter.unusedVariables false
set_option linter.unusedSimpArgs false
set_option linter.unusedSectionVars false
set_option linter.constructorNameAsVariable false
namespace Go.Proofs.Ytljofnmgddfljaa
open Go.RowKit

attribute [local go_sem] gw_cell gw_frozen gw_size

set_option maxRecDepth 100000 in
set_option maxHeartbeats 4000000 in
theorem rShares_any (C : Clim) (f : Nat) (day : Int) (w : World) (hC : C.In w) (hB : climB C = true) (hf : f < C.nA) (d0 : 0 ≤ day) (d1 : day ≤ 65536) :
    Calls Try.prog 60 #[.agg #[.int .i64 C.days, .slice C.aA C.nA C.cA, .slice C.aW C.nW C.cW], .int .i64 f, .int .i64 day] w fun e w' => e = .returned (.tuple #[.agg #[.int .i64 ((C.RA f).A (seasonOf C day)), .int .i64 ((C.RA f).B (seasonOf C day))], .agg #[.int .i64 ((C.RW f).A (seasonOf C day)), .int .i64 ((C.RW f).B (seasonOf C day))]]) ∧ Below w.heap.size w w' := by
  obtain ⟨⟨e0, e1⟩, ⟨a1, a2⟩, nw, ⟨b1, b2⟩, ra, rw'⟩ := climB_t hB
  clear hB
  obtain ⟨W1, hW1⟩ : ∃ W1, ((w.alloc (.cells #[.int .i64 C.days, .slice C.aA C.nA C.cA, .slice C.aW C.nW C.cW] 24)).alloc (.cells #[.int .i64 0, .int .i64 0] 26)).alloc (.cells #[.int .i64 0, .int .i64 0] 26) = W1 := ⟨_, rfl⟩
  have hBc : Below w.heap.size w W1 := by rw [← hW1]; exact ((below_alloc _ _).alloc (by simp) _).alloc (by simp <;> omega) _
  have zc0 : W1.heap[w.heap.size]? = some (.cells #[.int .i64 C.days, .slice C.aA C.nA C.cA, .slice C.aW C.nW C.cW] 24 (0, 0)) := by rw [← hW1]; exact alloc_keep (alloc_keep (alloc_at rfl))
  have zc1 : W1.heap[w.heap.size + 1]? = some (.cells #[.int .i64 0, .int .i64 0] 26 (0, 0)) := by rw [← hW1]; exact alloc_keep (alloc_at (by simp))
  have zc2 : W1.heap[w.heap.size + 1 + 1]? = some (.cells #[.int .i64 0, .int .i64 0] 26 (0, 0)) := by rw [← hW1]; exact alloc_at (by simp <;> omega)
  have c00 : W1.cell? ⟨w.heap.size, 0, none⟩ = some (.int .i64 C.days) := cell_of_block zc0 0 (by simp)
  have c01 : W1.cell? ⟨w.heap.size, 1, none⟩ = some (.slice C.aA C.nA C.cA) := cell_of_block zc0 1 (by simp)
  have c02 : W1.cell? ⟨w.heap.size, 2, none⟩ = some (.slice C.aW C.nW C.cW) := cell_of_block zc0 2 (by simp)
  have c10 : W1.cell? ⟨w.heap.size + 1, 0, none⟩ = some (.int .i64 0) := cell_of_block zc1 0 (by simp)
  have c11 : W1.cell? ⟨w.heap.size + 1, 1, none⟩ = some (.int .i64 0) := cell_of_block zc1 1 (by simp)
  have c20 : W1.cell? ⟨w.heap.size + 1 + 1, 0, none⟩ = some (.int .i64 0) := cell_of_block zc2 0 (by simp)
  have c21 : W1.cell? ⟨w.heap.size + 1 + 1, 1, none⟩ = some (.int .i64 0) := cell_of_block zc2 1 (by simp)
  have lc0 := (Array.getElem?_eq_some_iff.1 zc0).1
  have lc1 := (Array.getElem?_eq_some_iff.1 zc1).1
  have lc2 := (Array.getElem?_eq_some_iff.1 zc2).1
  have Zc1 := Lib.hid zc1
  have Zc2 := Lib.hid zc2
  clear zc0 zc1 zc2
  have HBc := Lib.hid hBc; clear hBc
  have HWc := Lib.hid hW1; clear hW1
  obtain ⟨bA, oA, eA, lA, cA⟩ := hC.ra.get (by omega)
  obtain ⟨bW, oW, eW, lW, cW⟩ := hC.rw.get (by omega)
  clear hC
  rw [eA] at c01
  rw [eW] at c02
  have SL := seasonOf_lt (C := C) (day := day) (by omega)
  have SE : day / C.days % ((C.RA 0).n : Int) = (seasonOf C day : Nat) := by
    unfold seasonOf
    have a := Int.emod_nonneg (day / C.days) (show ((C.RA 0).n : Int) ≠ 0 by omega)
    omega
  have Q0 : 0 ≤ day / C.days := Int.ediv_nonneg d0 (by omega)
  obtain ⟨s, hs⟩ : ∃ s, seasonOf C day = s := ⟨_, rfl⟩
  rw [hs] at SL SE ⊢
  clear hs
  have z0 := (cA 0 (by omega)).1
  rw [Nat.add_zero] at z0
  obtain ⟨zf, sf⟩ := cA f hf
  obtain ⟨yf, tf⟩ := cW f (by omega)
  have na := (ra f hf).1
  have nb := (rw' f hf).1
  clear cA cW eA eW ra rw'
  rcases sf with h0 | ⟨ba, oa, ea, la, ca⟩
  · omega
  rcases tf with h0 | ⟨bw, ow, ew, lw, cw⟩
  · omega
  rw [ea, na] at zf
  rw [ew, nb] at yf
  obtain ⟨p1, p2⟩ := ca s (by omega)
  obtain ⟨q1, q2⟩ := cw s (by omega)
  have fW : f < C.nW := by omega
  replace z0 := below_cell HBc.out z0
  replace zf := below_cell HBc.out zf
  replace yf := below_cell HBc.out yf
  replace p1 := below_cell HBc.out p1
  replace p2 := below_cell HBc.out p2
  replace q1 := below_cell HBc.out q1
  replace q2 := below_cell HBc.out q2
  have klA := Nat.lt_of_lt_of_le lA HBc.out.size
  have klW := Nat.lt_of_lt_of_le lW HBc.out.size
  have kla := Nat.lt_of_lt_of_le la HBc.out.size
  have klw := Nat.lt_of_lt_of_le lw HBc.out.size
  clear ca cw ea ew na nb nw
  generalize (C.RA f).A s = p at *
  generalize (C.RA f).B s = q at *
  generalize (C.RW f).A s = r at *
  generalize (C.RW f).B s = t at *
  go_enter Try.func60, Try.ntmps60
  go_wp2_with fail
  rw [HWc.out]
  refine wp_region_gw (by kernel_rfl) (by kernel_rfl) ?_
  repeat (go_big_quiet_step (fail))
  refine wpQuiet_nil ?_
  rintro _ ⟨z, rfl⟩
  go_wp2_with fail
  obtain ⟨V, hV⟩ : ∃ V, gw W1 z = V := ⟨_, rfl⟩
  have BV : Below W1.heap.size W1 V := by rw [← hV]; exact below_gw _ _
  rw [hV]
  clear hV
  have n0 := (BV.block _ lc1).trans Zc1.out
  have n1 := (BV.block _ lc2).trans Zc2.out
  have g0 := cell_of_block n0 0 (by simp)
  have g1 := cell_of_block n0 1 (by simp)
  have g2 := cell_of_block n1 0 (by simp)
  have g3 := cell_of_block n1 1 (by simp)
  have h0 := frozen_of_block n0 0
  have h1 := frozen_of_block n0 1
  have h2 := frozen_of_block n1 0
  have h3 := frozen_of_block n1 1
  have c01' := below_cell BV c01
  have c02' := below_cell BV c02
  have zf' := below_cell BV zf
  have yf' := below_cell BV yf
  have p1' := below_cell BV p1
  have p2' := below_cell BV p2
  have q1' := below_cell BV q1
  have q2' := below_cell BV q2
  have BB := Lib.hid (thru BV HBc.out)
  clear n0 n1 BV c00 c01 c02 c10 c11 c20 c21 zf yf z0 p1 p2 q1 q2 Zc1 Zc2
  have nbA1 : bA ≠ w.heap.size + 1 := by omega
  have mbA1 := nbA1.symm
  have nbA2 : bA ≠ w.heap.size + 1 + 1 := by omega
  have mbA2 := nbA2.symm
  have nbW1 : bW ≠ w.heap.size + 1 := by omega
  have mbW1 := nbW1.symm
  have nbW2 : bW ≠ w.heap.size + 1 + 1 := by omega
  have mbW2 := nbW2.symm
  have nba1 : ba ≠ w.heap.size + 1 := by omega
  have mba1 := nba1.symm
  have nba2 : ba ≠ w.heap.size + 1 + 1 := by omega
  have mba2 := nba2.symm
  have nbw1 : bw ≠ w.heap.size + 1 := by omega
  have mbw1 := nbw1.symm
  have nbw2 : bw ≠ w.heap.size + 1 + 1 := by omega
  have mbw2 := nbw2.symm
  go_region
  all_goals
    go_wp2_with fail
    refine bodyPost_ret (v := .tuple #[.agg #[.int .i64 p, .int .i64 q], .agg #[.int .i64 r, .int .i64 t]]) (by simp [results, Try.results60, go_sem, *]) rfl ⟨rfl, ?_⟩
    exact ((((BB.out.setCell (by simp) _).setCell (by simp) _).setCell (by simp <;> omega) _).setCell (by simp <;> omega) _).drew
end Go.Proofs.Ytljofnmgddfljaa
