/- Contracts of left (of the program and of the reference), rest, season, Shares. No conditions beyond each theorem's own. -/
import Derived.Test.YtljofnmgddfljaaBd
import Derived.Test.YtljofnmgddfljaaAg
set_option linter.unusedVariables false
set_option linter.unusedSimpArgs false
set_option linter.unusedSectionVars false
set_option linter.constructorNameAsVariable false
namespace Go.Proofs.Ytljofnmgddfljaa
open Go.RowKit

attribute [local go_sem] gw_cell gw_frozen gw_size

def leftLo (lo sh : Int) : Int := lo * (1000000000 - sh) / 1000000000
def leftHi (hi sl : Int) : Int := upI (hi * (1000000000 - sl)) 1000000000
theorem leftLo_range {lo sh : Int} (h0 : 0 ≤ lo) (h1 : 0 ≤ sh) (h2 : sh ≤ 1000000000) : 0 ≤ leftLo lo sh ∧ leftLo lo sh ≤ lo := by
  unfold leftLo
  have m1 : 0 ≤ lo * (1000000000 - sh) := Int.mul_nonneg h0 (by omega)
  have m2 : lo * (1000000000 - sh) ≤ lo * 1000000000 := Int.mul_le_mul_of_nonneg_left (by omega) h0
  omega
theorem leftHi_range {hi sl : Int} (h0 : 0 ≤ hi) (h1 : 0 ≤ sl) (h2 : sl ≤ 1000000000) : 0 ≤ leftHi hi sl ∧ leftHi hi sl ≤ hi := by
  unfold leftHi
  have m1 : 0 ≤ hi * (1000000000 - sl) := Int.mul_nonneg h0 (by omega)
  have m2 : hi * (1000000000 - sl) ≤ hi * 1000000000 := Int.mul_le_mul_of_nonneg_left (by omega) h0
  exact ⟨upI_nonneg m1 (by omega), upI_le (by omega) m2⟩
theorem left_le {lo hi sl sh : Int} (h0 : 0 ≤ lo) (h1 : lo ≤ hi) (h3 : 0 ≤ sl) (h4 : sl ≤ sh) (h5 : sh ≤ 1000000000) : leftLo lo sh ≤ leftHi hi sl := by
  unfold leftLo leftHi
  have m2 : lo * (1000000000 - sh) ≤ hi * (1000000000 - sl) := Int.mul_le_mul h1 (by omega) (by omega) (by omega)
  unfold upI
  omega

set_option maxHeartbeats 2000000 in
theorem left_any (lo hi sl sh : Int) (w : World) (h0 : 0 ≤ lo) (h1 : lo ≤ hi) (h2 : hi ≤ 2147483648) (h3 : 0 ≤ sl) (h4 : sl ≤ sh) (h5 : sh ≤ 100000000) :
    Calls Try.prog 94 #[.agg #[.int .i64 lo, .int .i64 hi], .agg #[.int .i64 sl, .int .i64 sh]] w fun e w' => e = .returned (.agg #[.int .i64 (leftLo lo sh), .int .i64 (leftHi hi sl)]) ∧ Below w.heap.size w w' := by
  have m1 : 0 ≤ lo * (1000000000 - sh) := Int.mul_nonneg h0 (by omega)
  have m2 : lo * (1000000000 - sh) ≤ 2147483648 * 1000000000 := Int.mul_le_mul (by omega) (by omega) (by omega) (by omega)
  have m3 : 0 ≤ hi * (1000000000 - sl) := Int.mul_nonneg (by omega) (by omega)
  have m4 : hi * (1000000000 - sl) ≤ 2147483648 * 1000000000 := Int.mul_le_mul (by omega) (by omega) (by omega) (by omega)
  have LL := Lib.hid (show leftLo lo sh = lo * (1000000000 - sh) / 1000000000 from rfl)
  have LH := Lib.hid (show leftHi hi sl = upI (hi * (1000000000 - sl)) 1000000000 from rfl)
  go_enter Try.func94, Try.ntmps94
  go_wp2
  refine wp_region_gw_tail 14 (by kernel_rfl) (by kernel_rfl) ?_
  simp only [List.take_succ_cons, List.take_zero]
  repeat (go_big_quiet_step (((go_at_call 85; exact Calls.gw_of_same ((up_any _ _ _ (by omega) (by omega) (by omega) (by omega)))))))
  refine wpQuiet_nil ?_
  rintro _ ⟨x, rfl⟩
  simp only [List.drop_succ_cons, List.drop_zero]
  go_wp2
  rw [LL.out, LH.out]
  refine bodyPost_ret (v := .agg #[.int .i64 (lo * (1000000000 - sh) / 1000000000), .int .i64 (upI (hi * (1000000000 - sl)) 1000000000)]) (by simp [results, Try.results94, go_sem]) rfl ⟨rfl, ?_⟩
  exact (((((((Below.refl _ w).alloc (Nat.le_refl _) _).alloc (by simp) _).alloc (by simp; omega) _).gw x).setCell (by simp <;> omega) _).setCell (by simp <;> omega) _)

set_option maxHeartbeats 2000000 in
theorem rleft_any (lo hi sl sh : Int) (w : World) (h0 : 0 ≤ lo) (h1 : lo ≤ hi) (h2 : hi ≤ 2147483648) (h3 : 0 ≤ sl) (h4 : sl ≤ sh) (h5 : sh ≤ 100000000) :
    Calls Try.prog 91 #[.agg #[.int .i64 lo, .int .i64 hi], .agg #[.int .i64 sl, .int .i64 sh]] w fun e w' => e = .returned (.agg #[.int .i64 (leftLo lo sh), .int .i64 (leftHi hi sl)]) ∧ Below w.heap.size w w' := by
  have m1 : 0 ≤ lo * (1000000000 - sh) := Int.mul_nonneg h0 (by omega)
  have m2 : lo * (1000000000 - sh) ≤ 2147483648 * 1000000000 := Int.mul_le_mul (by omega) (by omega) (by omega) (by omega)
  have m3 : 0 ≤ hi * (1000000000 - sl) := Int.mul_nonneg (by omega) (by omega)
  have m4 : hi * (1000000000 - sl) ≤ 2147483648 * 1000000000 := Int.mul_le_mul (by omega) (by omega) (by omega) (by omega)
  have LL := Lib.hid (show leftLo lo sh = lo * (1000000000 - sh) / 1000000000 from rfl)
  have LH := Lib.hid (show leftHi hi sl = upI (hi * (1000000000 - sl)) 1000000000 from rfl)
  go_enter Try.func91, Try.ntmps91
  go_wp2
  refine wp_region_gw_tail 14 (by kernel_rfl) (by kernel_rfl) ?_
  simp only [List.take_succ_cons, List.take_zero]
  repeat (go_big_quiet_step (((go_at_call 62; exact Calls.gw_of_same ((rup_any _ _ _ (by omega) (by omega) (by omega) (by omega)))))))
  refine wpQuiet_nil ?_
  rintro _ ⟨x, rfl⟩
  simp only [List.drop_succ_cons, List.drop_zero]
  go_wp2
  rw [LL.out, LH.out]
  refine bodyPost_ret (v := .agg #[.int .i64 (lo * (1000000000 - sh) / 1000000000), .int .i64 (upI (hi * (1000000000 - sl)) 1000000000)]) (by simp [results, Try.results91, go_sem]) rfl ⟨rfl, ?_⟩
  exact (((((((Below.refl _ w).alloc (Nat.le_refl _) _).alloc (by simp) _).alloc (by simp; omega) _).gw x).setCell (by simp <;> omega) _).setCell (by simp <;> omega) _)

/-- a cask's box -/
def CaskBox (w : World) (bx : Nat) (x : Cont) : Prop := w.heap[bx]? = some (.cells #[.int .i64 x.day, .int .i64 x.alo, .int .i64 x.ahi, .int .i64 x.wlo, .int .i64 x.whi] 108 (0, 0))
/-- a day has passed -/
def Cont.rest (x : Cont) (al ah wl wh : Int) : Cont := ⟨x.day + 1, leftLo x.alo ah, leftHi x.ahi al, leftLo x.wlo wh, leftHi x.whi wl⟩

set_option maxRecDepth 100000 in
set_option maxHeartbeats 4000000 in
theorem rest_any (bx : Nat) (x : Cont) (al ah wl wh : Int) (w : World) (hx : CaskBox w bx x) (hc : contB x = true) (a0 : 0 ≤ al) (a1 : al ≤ ah) (a2 : ah ≤ 100000000) (b0 : 0 ≤ wl) (b1 : wl ≤ wh) (b2 : wh ≤ 100000000) :
    Calls Try.prog 79 #[.pointer (some ⟨bx, 0, none⟩), .agg #[.int .i64 al, .int .i64 ah], .agg #[.int .i64 wl, .int .i64 wh]] w fun e w' => e = .returned (.tuple #[]) ∧ CaskBox w' bx (x.rest al ah wl wh) ∧ w.grownBy w' (some bx) := by
  obtain ⟨⟨d0, d1⟩, ⟨x0, x1, x2⟩, y0, y1, y2⟩ := contB_t hc
  clear hc
  obtain ⟨W2, hW2⟩ : ∃ W2, (w.alloc (.cells #[.int .i64 al, .int .i64 ah] 26)).alloc (.cells #[.int .i64 wl, .int .i64 wh] 26) = W2 := ⟨_, rfl⟩
  have hB : Below w.heap.size w W2 := by rw [← hW2]; exact (below_alloc _ _).alloc (by simp) _
  have hk : W2.heap[bx]? = _ := (hB.block bx (Array.getElem?_eq_some_iff.1 hx).1).trans hx
  have k0 : W2.cell? ⟨bx, 0, none⟩ = some (.int .i64 x.day) := cell_of_block hk 0 (by simp)
  have k1 : W2.cell? ⟨bx, 1, none⟩ = some (.int .i64 x.alo) := cell_of_block hk 1 (by simp)
  have k2 : W2.cell? ⟨bx, 2, none⟩ = some (.int .i64 x.ahi) := cell_of_block hk 2 (by simp)
  have k3 : W2.cell? ⟨bx, 3, none⟩ = some (.int .i64 x.wlo) := cell_of_block hk 3 (by simp)
  have k4 : W2.cell? ⟨bx, 4, none⟩ = some (.int .i64 x.whi) := cell_of_block hk 4 (by simp)
  have s0 : W2.cell? ⟨w.heap.size, 0, none⟩ = some (.int .i64 al) := by rw [← hW2]; simp
  have s1 : W2.cell? ⟨w.heap.size, 1, none⟩ = some (.int .i64 ah) := by rw [← hW2]; simp
  have t0 : W2.cell? ⟨w.heap.size + 1, 0, none⟩ = some (.int .i64 wl) := by rw [← hW2]; simp
  have t1 : W2.cell? ⟨w.heap.size + 1, 1, none⟩ = some (.int .i64 wh) := by rw [← hW2]; simp
  have lx := (Array.getElem?_eq_some_iff.1 hk).1
  have HK := Lib.hid hk; clear hk
  have l1 : w.heap.size < W2.heap.size := by rw [← hW2]; simp; omega
  have l2 : w.heap.size + 1 < W2.heap.size := by rw [← hW2]; simp
  clear hx
  have HB := Lib.hid hB; clear hB
  have HW2 := Lib.hid hW2; clear hW2
  have CR := Lib.hid (show x.rest al ah wl wh = ⟨x.day + 1, leftLo x.alo ah, leftHi x.ahi al, leftLo x.wlo wh, leftHi x.whi wl⟩ from rfl)
  go_enter Try.func79, Try.ntmps79
  go_wp2_with fail
  rw [HW2.out]
  refine wp_region_ord [0, 1, 2, 3, 4, 5, 8, 9, 10, 14, 15, 16] [6, 7, 11, 12, 13, 17, 18, 19] [20, 21, 22, 23, 24, 25, 26, 27, 28] (by kernel_rfl) (by kernel_rfl) ?_
  simp only [pickL, List.getElem?_cons_zero, List.getElem?_cons_succ]
  repeat (go_big_quiet_step (fail))
  refine wpQuiet_nil ?_
  repeat (go_big_quiet_step ((go_at_call 94; first | (with_reducible exact Calls.gw_of (left_any x.alo x.ahi al ah _ x0 x1 x2 a0 a1 a2)) | (with_reducible exact Calls.gw_of (left_any x.wlo x.whi wl wh _ y0 y1 y2 b0 b1 b2)))))
  refine wpQuiet_nil ?_
  rintro _ ⟨z, rfl⟩
  have HB2 := Lib.hid (below_gw W2 z)
  have HK2 := Lib.hid ((HB2.out.block bx (Array.getElem?_eq_some_iff.1 HK.out).1).trans HK.out)
  obtain ⟨w2, hw2⟩ : ∃ w2, gw W2 z = w2 := ⟨_, rfl⟩
  rw [hw2] at HB2 HK2 ⊢
  have r0 : w2.cell? ⟨bx, 0, none⟩ = some (.int .i64 x.day) := cell_of_block HK2.out 0 (by simp)
  have r1 : w2.cell? ⟨bx, 1, none⟩ = some (.int .i64 x.alo) := cell_of_block HK2.out 1 (by simp)
  have r2 : w2.cell? ⟨bx, 2, none⟩ = some (.int .i64 x.ahi) := cell_of_block HK2.out 2 (by simp)
  have r3 : w2.cell? ⟨bx, 3, none⟩ = some (.int .i64 x.wlo) := cell_of_block HK2.out 3 (by simp)
  have r4 : w2.cell? ⟨bx, 4, none⟩ = some (.int .i64 x.whi) := cell_of_block HK2.out 4 (by simp)
  have f0 := frozen_of_block HK2.out 0
  have f1 := frozen_of_block HK2.out 1
  have f2 := frozen_of_block HK2.out 2
  have f3 := frozen_of_block HK2.out 3
  have f4 := frozen_of_block HK2.out 4
  clear k0 k1 k2 k3 k4 s0 s1 t0 t1 hw2
  all_goals
    go_wp2_with fail
    try simp only [noPanic]
    go_wp2_with fail
    go_end0
    refine ⟨rfl, ?_, ?_⟩
    · rw [CR.out]
      exact block_set 4 _ (block_set 3 _ (block_set 2 _ (block_set 1 _ (block_set 0 _ HK2.out))))
    · exact grownBy_trans (grownBy_of_below (thru HB2.out HB.out) _) (grownBy_trans (grownBy_trans (grownBy_trans (grownBy_trans (grownBy_set _ bx 0 _) (grownBy_set _ bx 1 _)) (grownBy_set _ bx 2 _)) (grownBy_set _ bx 3 _)) (grownBy_set _ bx 4 _))
end Go.Proofs.Ytljofnmgddfljaa
