/- Contract of season. No conditions beyond each theorem's own. -/
import Derived.Test.YtljofnmgddfljaaBg
set_option linter.unusedVariables false
set_option linter.unusedSimpArgs false
set_option linter.unusedSectionVars false
set_option linter.constructorNameAsVariable false
namespace Go.Proofs.Ytljofnmgddfljaa
open Go.RowKit

attribute [local go_sem] gw_cell gw_frozen gw_size

theorem infoSpan : (Try.prog.info? 26).map (fun i => (i.zero, i.size)) = some (some (.agg #[.int .i64 0, .int .i64 0]), 2) := by kernel_rfl
theorem infoSpans : (Try.prog.info? 124).map (fun i => (i.zero, i.size)) = some (some (.agg #[.int .i64 0, .int .i64 0, .int .i64 0, .int .i64 0]), 4) := by kernel_rfl

/-- a day's season -/
def seasonOf (C : Clim) (day : Int) : Nat := (day / C.days % (C.RA 0).n).toNat
theorem seasonOf_lt {C : Clim} {day : Int} (h : 0 < (C.RA 0).n) : seasonOf C day < (C.RA 0).n := by
  unfold seasonOf
  have a := Int.emod_nonneg (day / C.days) (show ((C.RA 0).n : Int) ≠ 0 by omega)
  have b := Int.emod_lt_of_pos (day / C.days) (show (0 : Int) < (C.RA 0).n by omega)
  omega

set_option maxRecDepth 100000 in
set_option maxHeartbeats 4000000 in
theorem season_any (C : Clim) (bc B f : Nat) (day : Int) (w : World) (hC : C.At w bc) (hB : climB C = true) (hY : YearsAt C w B) (hf : f < C.nA) (d0 : 0 ≤ day) (d1 : day ≤ 65536) :
    Calls Try.prog 80 #[.pointer (some ⟨B, f * 48, none⟩), .pointer (some ⟨bc, 0, none⟩), .int .i64 day] w fun e w' => e = .returned (.tuple #[.agg #[.int .i64 ((C.RA f).A (seasonOf C day)), .int .i64 ((C.RA f).B (seasonOf C day))], .agg #[.int .i64 ((C.RW f).A (seasonOf C day)), .int .i64 ((C.RW f).B (seasonOf C day))]]) ∧ Below w.heap.size w w' := by
  have c0 := hC.c0
  have c1 := hC.c1
  have lt := hC.lt
  obtain ⟨⟨e0, e1⟩, ⟨a1, a2⟩, nw, ⟨b1, b2⟩, -, -⟩ := climB_t hB
  clear hB
  obtain ⟨bA, oA, eA, lA, cA⟩ := hC.i.ra.first (by omega)
  rw [eA] at c1
  clear hC eA
  have SL := seasonOf_lt (C := C) (day := day) (by omega)
  have SE : day / C.days % ((C.RA 0).n : Int) = (seasonOf C day : Nat) := by
    unfold seasonOf
    have a := Int.emod_nonneg (day / C.days) (show ((C.RA 0).n : Int) ≠ 0 by omega)
    omega
  have Q0 : 0 ≤ day / C.days := Int.ediv_nonneg d0 (by omega)
  obtain ⟨s, hs⟩ : ∃ s, seasonOf C day = s := ⟨_, rfl⟩
  rw [hs] at SL SE ⊢
  clear hs
  obtain ⟨cur, hcur, hsz, hfl⟩ := hY
  obtain ⟨y0, y1, y2, y3⟩ := hfl f s hf SL trivial
  have lB := (Array.getElem?_eq_some_iff.1 hcur).1
  have G : ∀ k v, cur[k]? = some v → w.cell? ⟨B, k, none⟩ = some v := fun k v hk => by
    obtain ⟨h, rfl⟩ := Array.getElem?_eq_some_iff.1 hk
    exact cell_of_block hcur k h
  have z0 := G _ _ y0
  have z1 := G _ _ y1
  have z2 := G _ _ y2
  have z3 := G _ _ y3
  clear G y0 y1 y2 y3 hfl hcur hsz
  generalize (C.RA f).A s = p at *
  generalize (C.RA f).B s = q at *
  generalize (C.RW f).A s = r at *
  generalize (C.RW f).B s = t at *
  go_enter Try.func80, Try.ntmps80
  go_wp2_with fail
  obtain ⟨W1, hW1⟩ : ∃ W1, (w.alloc (.cells #[.int .i64 0, .int .i64 0] 26)).alloc (.cells #[.int .i64 0, .int .i64 0] 26) = W1 := ⟨_, rfl⟩
  have hB1 : Below w.heap.size w W1 := by rw [← hW1]; exact (below_alloc _ _).alloc (by simp) _
  have m0 : W1.heap[w.heap.size]? = some (.cells #[.int .i64 0, .int .i64 0] 26 (0, 0)) := by rw [← hW1]; exact ((below_alloc (w.alloc _) _).block w.heap.size (by simp)).trans (World.alloc_heap_new w _)
  have m1 : W1.heap[w.heap.size + 1]? = some (.cells #[.int .i64 0, .int .i64 0] 26 (0, 0)) := by
    rw [← hW1]
    have h := World.alloc_heap_new (w.alloc (.cells #[.int .i64 0, .int .i64 0] 26)) (.cells #[.int .i64 0, .int .i64 0] 26)
    rw [show (w.alloc (.cells #[.int .i64 0, .int .i64 0] 26)).heap.size = w.heap.size + 1 by simp] at h
    exact h
  have sz1 : w.heap.size + 1 < W1.heap.size := (Array.getElem?_eq_some_iff.1 m1).1
  rw [hW1]
  have z0' := (hB1.cell (p := ⟨B, f * 48 + s * 4, none⟩) lB).trans z0
  have z1' := (hB1.cell (p := ⟨B, f * 48 + s * 4 + 1, none⟩) lB).trans z1
  have z2' := (hB1.cell (p := ⟨B, f * 48 + s * 4 + 2, none⟩) lB).trans z2
  have z3' := (hB1.cell (p := ⟨B, f * 48 + s * 4 + 3, none⟩) lB).trans z3
  have c0' := (hB1.cell (p := ⟨bc, 0, none⟩) lt).trans c0
  have c1' := (hB1.cell (p := ⟨bc, 1, none⟩) lt).trans c1
  have cA' := (hB1.cell (p := ⟨bA, oA, none⟩) lA).trans cA
  have lB' := Nat.lt_of_lt_of_le lB hB1.size
  have lt' := Nat.lt_of_lt_of_le lt hB1.size
  have lA' := Nat.lt_of_lt_of_le lA hB1.size
  have HB1 := Lib.hid hB1; clear hB1 hW1
  have M0 := Lib.hid m0; clear m0
  have M1 := Lib.hid m1; clear m1
  clear z0 z1 z2 z3 c0 c1 cA
  refine wp_region_box1 [true, true, true, true, true, true, true, true, true, true, true, true, true, true, true, true, true, true, false, false] 18 19 #[.int .i64 0, .int .i64 0, .int .i64 0, .int .i64 0] #[.int .i64 p, .int .i64 q, .int .i64 r, .int .i64 t] (by kernel_rfl) rfl rfl rfl (by kernel_rfl) rfl (by kernel_rfl) infoSpans rfl rfl (by simp [Value.oneCell']) ?_
  apply Exists.intro
  refine ⟨fun S hS hx => ?_, ?_, ?_⟩
  · obtain ⟨x0, hx0⟩ := hx
    haveI : Nonempty (GrewS W1 S) := ⟨⟨x0, hx0⟩⟩
    simp only [pickM]
    repeat (go_big_quiet_step (fail))
    exact wpQuiet_nil rfl
  · rfl
  · intro K w5 hBw hblk hb5
    have s0 : w5.cell? ⟨K, 0, none⟩ = some (.int .i64 p) := cell_of_block hblk 0 (by simp)
    have s1 : w5.cell? ⟨K, 1, none⟩ = some (.int .i64 q) := cell_of_block hblk 1 (by simp)
    have s2 : w5.cell? ⟨K, 2, none⟩ = some (.int .i64 r) := cell_of_block hblk 2 (by simp)
    have s3 : w5.cell? ⟨K, 3, none⟩ = some (.int .i64 t) := cell_of_block hblk 3 (by simp)
    have n0 := (hb5.block w.heap.size (by omega)).trans M0.out
    have n1 := (hb5.block (w.heap.size + 1) sz1).trans M1.out
    have g0 := cell_of_block n0 0 (by simp)
    have g1 := cell_of_block n0 1 (by simp)
    have g2 := cell_of_block n1 0 (by simp)
    have g3 := cell_of_block n1 1 (by simp)
    have h0 := frozen_of_block n0 0
    have h1 := frozen_of_block n0 1
    have h2 := frozen_of_block n1 0
    have h3 := frozen_of_block n1 1
    have nk0 : w.heap.size ≠ K := by omega
    have nk1 : w.heap.size + 1 ≠ K := by omega
    have nk0' := nk0.symm
    have nk1' := nk1.symm
    have B5 := Lib.hid (thru hb5 HB1.out)
    clear n0 n1 hb5 hblk M0 M1 HB1 z0' z1' z2' z3' c0' c1' cA'
    go_upto_region 2 with (fail)
    simp only [Act.put, List.setIfInBounds_toArray, List.set_cons_succ, List.set_cons_zero]
    go_region
    all_goals
      go_wp2_with fail
      refine bodyPost_ret (v := .tuple #[.agg #[.int .i64 p, .int .i64 q], .agg #[.int .i64 r, .int .i64 t]]) (by simp [results, Try.results80, go_sem, *]) rfl ⟨rfl, ?_⟩
      exact (((((B5.out.setCell (Nat.le_refl _) _).setCell (Nat.le_refl _) _).setCell (by simp) _).setCell (by simp) _).drew)
end Go.Proofs.Ytljofnmgddfljaa
