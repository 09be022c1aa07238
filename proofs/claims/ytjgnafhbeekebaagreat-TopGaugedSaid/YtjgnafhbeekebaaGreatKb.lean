/- Contracts of left (of the program and of the reference), rest, season, Shares. Contract of years. Contracts of the floor of a day: the comparing of stays, slices.BinarySearchFunc, the closure. Contract of season. No conditions beyond each theorem's own. -/
import Derived.Test.YtjgnafhbeekebaaGreatKa
import Derived.Test.YtjgnafhbeekebaaGreatAy
import Derived.Laws.MakeOwn
set_option linter.unusedVariables false
set_option linter.unusedSimpArgs false
set_option linter.unusedSectionVars false
set_option linter.constructorNameAsVariable false
namespace Go.Proofs.YtjgnafhbeekebaaGreat.L7
open Go.RowKit

attribute [local go_sem] gw_cell gw_frozen gw_size

def leftLo (lo sh : Int) : Int := lo * (1000000000 - sh) / 1000000000
def leftHi (hi sl : Int) : Int := upI (hi * (1000000000 - sl)) 1000000000
theorem leftLo_range {lo sh : Int} (h0 : 0 ≤ lo) (h1 : 0 ≤ sh) (h2 : sh ≤ 1000000000) : 0 ≤ leftLo lo sh ∧ leftLo lo sh ≤ lo := by
  unfold leftLo
  have m1 : 0 ≤ lo * (1000000000 - sh) := Int.mul_nonneg h0 (by omega)
  have m2 : lo * (1000000000 - sh) ≤ lo * 1000000000 := Int.mul_le_mul_of_nonneg_left (by omega) h0
  omega
theorem leftHi_range {hi sl : Int} (h0 : 0 ≤ hi) (h1 : 0 ≤ sl) (h2 : sl ≤ 1000000000) : 0 ≤ leftHi hi sl ∧ leftHi hi sl ≤ hi := by
  unfold leftHi
  have m1 : 0 ≤ hi * (1000000000 - sl) := Int.mul_nonneg h0 (by omega)
  have m2 : hi * (1000000000 - sl) ≤ hi * 1000000000 := Int.mul_le_mul_of_nonneg_left (by omega) h0
  exact ⟨upI_nonneg m1 (by omega), upI_le (by omega) m2⟩
theorem left_le {lo hi sl sh : Int} (h0 : 0 ≤ lo) (h1 : lo ≤ hi) (h3 : 0 ≤ sl) (h4 : sl ≤ sh) (h5 : sh ≤ 1000000000) : leftLo lo sh ≤ leftHi hi sl := by
  unfold leftLo leftHi
  have m2 : lo * (1000000000 - sh) ≤ hi * (1000000000 - sl) := Int.mul_le_mul h1 (by omega) (by omega) (by omega)
  unfold upI
  omega

set_option maxHeartbeats 2000000 in
theorem left_any (lo hi sl sh : Int) (w : World) (h0 : 0 ≤ lo) (h1 : lo ≤ hi) (h2 : hi ≤ 2147483648) (h3 : 0 ≤ sl) (h4 : sl ≤ sh) (h5 : sh ≤ 100000000) :
    Calls Tryz.prog 103 #[.agg #[.int .i64 lo, .int .i64 hi], .agg #[.int .i64 sl, .int .i64 sh]] w fun e w' => e = .returned (.agg #[.int .i64 (leftLo lo sh), .int .i64 (leftHi hi sl)]) ∧ Below w.heap.size w w' := by
  have m1 : 0 ≤ lo * (1000000000 - sh) := Int.mul_nonneg h0 (by omega)
  have m2 : lo * (1000000000 - sh) ≤ 2147483648 * 1000000000 := Int.mul_le_mul (by omega) (by omega) (by omega) (by omega)
  have m3 : 0 ≤ hi * (1000000000 - sl) := Int.mul_nonneg (by omega) (by omega)
  have m4 : hi * (1000000000 - sl) ≤ 2147483648 * 1000000000 := Int.mul_le_mul (by omega) (by omega) (by omega) (by omega)
  have LL := Lib.hid (show leftLo lo sh = lo * (1000000000 - sh) / 1000000000 from rfl)
  have LH := Lib.hid (show leftHi hi sl = upI (hi * (1000000000 - sl)) 1000000000 from rfl)
  go_enter Tryz.func103, Tryz.ntmps103
  go_wp2
  refine wp_region_gw_tail 14 (by kernel_rfl) (by kernel_rfl) ?_
  simp only [List.take_succ_cons, List.take_zero]
  repeat (go_big_quiet_step (((go_at_call 67; exact Calls.gw_of_same ((up_any _ _ _ (by omega) (by omega) (by omega) (by omega)))))))
  refine wpQuiet_nil ?_
  rintro _ ⟨x, rfl⟩
  simp only [List.drop_succ_cons, List.drop_zero]
  go_wp2
  rw [LL.out, LH.out]
  refine bodyPost_ret (v := .agg #[.int .i64 (lo * (1000000000 - sh) / 1000000000), .int .i64 (upI (hi * (1000000000 - sl)) 1000000000)]) (by simp [results, Tryz.results103, go_sem]) rfl ⟨rfl, ?_⟩
  exact (((((((Below.refl _ w).alloc (Nat.le_refl _) _).alloc (by simp) _).alloc (by simp; omega) _).gw x).setCell (by simp <;> omega) _).setCell (by simp <;> omega) _)

/-- a cask's box -/
def CaskBox (w : World) (bx : Nat) (x : Cont) : Prop := w.heap[bx]? = some (.cells #[.int .i64 x.day, .int .i64 x.alo, .int .i64 x.ahi, .int .i64 x.wlo, .int .i64 x.whi] 83 (0, 0))
/-- a day has passed -/
def Cont.rest (x : Cont) (al ah wl wh : Int) : Cont := ⟨x.day + 1, leftLo x.alo ah, leftHi x.ahi al, leftLo x.wlo wh, leftHi x.whi wl⟩

set_option maxRecDepth 100000 in
set_option maxHeartbeats 4000000 in
theorem rest_any (bx : Nat) (x : Cont) (al ah wl wh : Int) (w : World) (hx : CaskBox w bx x) (hc : contB x = true) (a0 : 0 ≤ al) (a1 : al ≤ ah) (a2 : ah ≤ 100000000) (b0 : 0 ≤ wl) (b1 : wl ≤ wh) (b2 : wh ≤ 100000000) :
    Calls Tryz.prog 95 #[.pointer (some ⟨bx, 0, none⟩), .agg #[.int .i64 al, .int .i64 ah], .agg #[.int .i64 wl, .int .i64 wh]] w fun e w' => e = .returned (.tuple #[]) ∧ CaskBox w' bx (x.rest al ah wl wh) ∧ w.grownBy w' (some bx) := by
  obtain ⟨⟨d0, d1⟩, ⟨x0, x1, x2⟩, y0, y1, y2⟩ := contB_t hc
  clear hc
  obtain ⟨W2, hW2⟩ : ∃ W2, (w.alloc (.cells #[.int .i64 al, .int .i64 ah] 27)).alloc (.cells #[.int .i64 wl, .int .i64 wh] 27) = W2 := ⟨_, rfl⟩
  have hB : Below w.heap.size w W2 := by rw [← hW2]; exact (below_alloc _ _).alloc (by simp) _
  have hk : W2.heap[bx]? = _ := (hB.block bx (Array.getElem?_eq_some_iff.1 hx).1).trans hx
  have k0 : W2.cell? ⟨bx, 0, none⟩ = some (.int .i64 x.day) := cell_of_block hk 0 (by simp)
  have k1 : W2.cell? ⟨bx, 1, none⟩ = some (.int .i64 x.alo) := cell_of_block hk 1 (by simp)
  have k2 : W2.cell? ⟨bx, 2, none⟩ = some (.int .i64 x.ahi) := cell_of_block hk 2 (by simp)
  have k3 : W2.cell? ⟨bx, 3, none⟩ = some (.int .i64 x.wlo) := cell_of_block hk 3 (by simp)
  have k4 : W2.cell? ⟨bx, 4, none⟩ = some (.int .i64 x.whi) := cell_of_block hk 4 (by simp)
  have s0 : W2.cell? ⟨w.heap.size, 0, none⟩ = some (.int .i64 al) := by rw [← hW2]; simp
  have s1 : W2.cell? ⟨w.heap.size, 1, none⟩ = some (.int .i64 ah) := by rw [← hW2]; simp
  have t0 : W2.cell? ⟨w.heap.size + 1, 0, none⟩ = some (.int .i64 wl) := by rw [← hW2]; simp
  have t1 : W2.cell? ⟨w.heap.size + 1, 1, none⟩ = some (.int .i64 wh) := by rw [← hW2]; simp
  have lx := (Array.getElem?_eq_some_iff.1 hk).1
  have HK := Lib.hid hk; clear hk
  have l1 : w.heap.size < W2.heap.size := by rw [← hW2]; simp; omega
  have l2 : w.heap.size + 1 < W2.heap.size := by rw [← hW2]; simp
  clear hx
  have HB := Lib.hid hB; clear hB
  have HW2 := Lib.hid hW2; clear hW2
  have CR := Lib.hid (show x.rest al ah wl wh = ⟨x.day + 1, leftLo x.alo ah, leftHi x.ahi al, leftLo x.wlo wh, leftHi x.whi wl⟩ from rfl)
  go_enter Tryz.func95, Tryz.ntmps95
  go_wp2_with fail
  rw [HW2.out]
  refine wp_region_ord [0, 1, 2, 3, 4, 5, 8, 9, 10, 14, 15, 16] [6, 7, 11, 12, 13, 17, 18, 19] [20, 21, 22, 23, 24, 25, 26, 27, 28] (by kernel_rfl) (by kernel_rfl) ?_
  simp only [pickL, List.getElem?_cons_zero, List.getElem?_cons_succ]
  repeat (go_big_quiet_step (fail))
  refine wpQuiet_nil ?_
  repeat (go_big_quiet_step ((go_at_call 103; first | (with_reducible exact Calls.gw_of (left_any x.alo x.ahi al ah _ x0 x1 x2 a0 a1 a2)) | (with_reducible exact Calls.gw_of (left_any x.wlo x.whi wl wh _ y0 y1 y2 b0 b1 b2)))))
  refine wpQuiet_nil ?_
  rintro _ ⟨z, rfl⟩
  have HB2 := Lib.hid (below_gw W2 z)
  have HK2 := Lib.hid ((HB2.out.block bx (Array.getElem?_eq_some_iff.1 HK.out).1).trans HK.out)
  obtain ⟨w2, hw2⟩ : ∃ w2, gw W2 z = w2 := ⟨_, rfl⟩
  rw [hw2] at HB2 HK2 ⊢
  have r0 : w2.cell? ⟨bx, 0, none⟩ = some (.int .i64 x.day) := cell_of_block HK2.out 0 (by simp)
  have r1 : w2.cell? ⟨bx, 1, none⟩ = some (.int .i64 x.alo) := cell_of_block HK2.out 1 (by simp)
  have r2 : w2.cell? ⟨bx, 2, none⟩ = some (.int .i64 x.ahi) := cell_of_block HK2.out 2 (by simp)
  have r3 : w2.cell? ⟨bx, 3, none⟩ = some (.int .i64 x.wlo) := cell_of_block HK2.out 3 (by simp)
  have r4 : w2.cell? ⟨bx, 4, none⟩ = some (.int .i64 x.whi) := cell_of_block HK2.out 4 (by simp)
  have f0 := frozen_of_block HK2.out 0
  have f1 := frozen_of_block HK2.out 1
  have f2 := frozen_of_block HK2.out 2
  have f3 := frozen_of_block HK2.out 3
  have f4 := frozen_of_block HK2.out 4
  clear k0 k1 k2 k3 k4 s0 s1 t0 t1 hw2
  all_goals
    go_wp2_with fail
    try simp only [noPanic]
    go_wp2_with fail
    go_end0
    refine ⟨rfl, ?_, ?_⟩
    · rw [CR.out]
      exact block_set 4 _ (block_set 3 _ (block_set 2 _ (block_set 1 _ (block_set 0 _ HK2.out))))
    · exact grownBy_trans (grownBy_of_below (thru HB2.out HB.out) _) (grownBy_trans (grownBy_trans (grownBy_trans (grownBy_trans (grownBy_set _ bx 0 _) (grownBy_set _ bx 1 _)) (grownBy_set _ bx 2 _)) (grownBy_set _ bx 3 _)) (grownBy_set _ bx 4 _))
end Go.Proofs.YtjgnafhbeekebaaGreat.L7

namespace Go.Proofs.YtjgnafhbeekebaaGreat.L7
open Go.RowKit

attribute [local go_sem] gw_cell gw_frozen gw_size

/-- the shares of all floors, so far as P says -/
def Filled (C : Clim) (cur : Array Value) (P : Nat → Nat → Prop) : Prop :=
  cur.size = C.nA * 48 ∧ ∀ f s, f < C.nA → s < (C.RA 0).n → P f s → cur[f * 48 + s * 4]? = some (.int .i64 ((C.RA f).A s)) ∧ cur[f * 48 + s * 4 + 1]? = some (.int .i64 ((C.RA f).B s)) ∧ cur[f * 48 + s * 4 + 2]? = some (.int .i64 ((C.RW f).A s)) ∧ cur[f * 48 + s * 4 + 3]? = some (.int .i64 ((C.RW f).B s))
def YearsAt (C : Clim) (w : World) (B : Nat) : Prop := ∃ cur, w.heap[B]? = some (.cells cur 138 (0, 0)) ∧ Filled C cur fun _ _ => True
theorem climB_t {C : Clim} (h : climB C = true) : (1 ≤ C.days ∧ C.days ≤ 366) ∧ (1 ≤ C.nA ∧ C.nA ≤ 8) ∧ C.nW = C.nA ∧ (1 ≤ (C.RA 0).n ∧ (C.RA 0).n ≤ 12) ∧
    (∀ i, i < C.nA → (C.RA i).n = (C.RA 0).n ∧ ∀ s, s < (C.RA 0).n → 0 ≤ (C.RA i).A s ∧ (C.RA i).A s ≤ (C.RA i).B s ∧ (C.RA i).B s ≤ 100000000) ∧
    (∀ i, i < C.nA → (C.RW i).n = (C.RA 0).n ∧ ∀ s, s < (C.RA 0).n → 0 ≤ (C.RW i).A s ∧ (C.RW i).A s ≤ (C.RW i).B s ∧ (C.RW i).B s ≤ 100000000) := by
  simp only [climB, climH, Bool.and_eq_true, decide_eq_true_eq] at h
  obtain ⟨⟨h1, h2, h3, h4⟩, h5, h6⟩ := h
  have b1 := inB_t.1 h1
  have b2 := inB_t.1 h2
  have b4 := inB_t.1 h4
  have R : ∀ r : RowD, rowB (C.RA 0).n r = true → r.n = (C.RA 0).n ∧ ∀ s, s < (C.RA 0).n → 0 ≤ r.A s ∧ r.A s ≤ r.B s ∧ r.B s ≤ 100000000 := fun r h => by
    simp only [rowB, Bool.and_eq_true, decide_eq_true_eq] at h
    exact ⟨h.1, fun s hs => spanB_t.1 (allB_t.1 h.2 s (by omega))⟩
  exact ⟨b1, by omega, h3, by omega, fun i hi => R _ (allB_t.1 h5 i hi), fun i hi => R _ (allB_t.1 h6 i (by omega))⟩

theorem block_set4 {W : World} {b k : Nat} {cur : Array Value} {t : TypeId} (h : W.heap[b]? = some (.cells cur t (0, 0))) (x y z u : Value) :
    ((((W.setCell ⟨b, k, none⟩ x).setCell ⟨b, k + 1, none⟩ y).setCell ⟨b, k + 2, none⟩ z).setCell ⟨b, k + 3, none⟩ u).heap[b]? = some (.cells ((((cur.setIfInBounds k x).setIfInBounds (k + 1) y).setIfInBounds (k + 2) z).setIfInBounds (k + 3) u) t (0, 0)) :=
  block_set _ u (block_set _ z (block_set _ y (block_set _ x h)))
/-- four cells of a new season -/
theorem filled_step {C : Clim} {cur : Array Value} {i k : Nat} (hi : i < C.nA) (hw : (C.RA 0).n ≤ 12) (hk : k < 12)
    (h : Filled C cur fun f s => f < i ∨ f = i ∧ s < k) :
    Filled C ((((cur.setIfInBounds (i * 48 + k * 4) (.int .i64 ((C.RA i).A k))).setIfInBounds (i * 48 + k * 4 + 1) (.int .i64 ((C.RA i).B k))).setIfInBounds (i * 48 + k * 4 + 2) (.int .i64 ((C.RW i).A k))).setIfInBounds (i * 48 + k * 4 + 3) (.int .i64 ((C.RW i).B k))) fun f s => f < i ∨ f = i ∧ s < k + 1 := by
  obtain ⟨hs, hf⟩ := h
  refine ⟨by simp [hs], fun f s h1 h2 h3 => ?_⟩
  by_cases e : f = i ∧ s = k
  · obtain ⟨rfl, rfl⟩ := e
    have : f * 48 + s * 4 + 3 < cur.size := by omega
    simp [Array.getElem?_setIfInBounds]
    omega
  · have hh := hf f s h1 h2 (by omega)
    simp only [Array.getElem?_setIfInBounds]
    refine ⟨?_, ?_, ?_, ?_⟩
    · rw [if_neg, if_neg, if_neg, if_neg]
      · exact hh.1
      all_goals omega
    · rw [if_neg, if_neg, if_neg, if_neg]
      · exact hh.2.1
      all_goals omega
    · rw [if_neg, if_neg, if_neg, if_neg]
      · exact hh.2.2.1
      all_goals omega
    · rw [if_neg, if_neg, if_neg, if_neg]
      · exact hh.2.2.2
      all_goals omega

set_option maxRecDepth 100000 in
set_option maxHeartbeats 4000000 in
theorem years_any (C : Clim) (bc : Nat) (w : World) (hC : C.At w bc) (hB : climB C = true) :
    Calls Tryz.prog 90 #[.pointer (some ⟨bc, 0, none⟩)] w fun e w' => ∃ B, e = .returned (.slice (some ⟨B, 0, none⟩) C.nA C.nA) ∧ w.heap.size ≤ B ∧ YearsAt C w' B ∧ Below w.heap.size w w' := by
  have c1 := hC.c1
  have c2 := hC.c2
  have lt := hC.lt
  obtain ⟨_, ⟨a1, a2⟩, nw, ⟨b1, b2⟩, ra, rw'⟩ := climB_t hB
  clear hB
  have RA := Lib.hid ra; clear ra
  have RW := Lib.hid rw'; clear rw'
  obtain ⟨bA, oA, eA, lA, cA⟩ := hC.i.ra.get (by omega)
  obtain ⟨bW, oW, eW, lW, cW⟩ := hC.i.rw.get (by omega)
  rw [eA] at c1
  rw [eW] at c2
  clear hC eA eW
  have CA := Lib.hid cA; clear cA
  have CW := Lib.hid cW; clear cW
  obtain ⟨M, MS, MK⟩ : ∃ M : Array Value, M.size = C.nA * 48 ∧ (Instr.makeSlice 130 (.int .i64 (C.nA : Int)) (.int .i64 (C.nA : Int))).run Tryz.prog w = .ok (.slice (some ⟨w.heap.size, 0, none⟩) C.nA C.nA) (w.alloc (.cells M 138)) := by
    have := run_make (P := Tryz.prog) w 130 138 _ _ rfl rfl rfl .i64 .i64 C.nA C.nA (by omega) (by omega) (by show (384 : Int) * _ ≤ _; omega) (by omega)
    simp only [Int.toNat_natCast] at this
    exact ⟨_, size_madeCells _ _, this⟩
  go_enter Tryz.func90, Tryz.ntmps90
  go_wp2_with fail
  clear MK
  go_loopw [15] (fun t wr => ∃ i : Nat, i ≤ C.nA ∧ t = .int .i64 i ∧ (∃ cur, wr.heap[w.heap.size]? = some (.cells cur 138 (0, 0)) ∧ Hid (Filled C cur fun f s => f < i)) ∧ Below w.heap.size w wr) (fun t _ => C.nA - (intOf t).toNat)
  case atStart => exact ⟨0, Nat.zero_le _, rfl, ⟨M, World.alloc_heap_new w _, Lib.hid ⟨MS, fun f s h1 h2 h3 => by omega⟩⟩, below_alloc _ _⟩
  case round =>
    obtain ⟨i, hi, rfl, ⟨cur, hcur, FC⟩, hb⟩ := hrel
    have c1' := (hb.cell (p := ⟨bc, 1, none⟩) lt).trans c1
    have lt' := Nat.lt_of_lt_of_le lt hb.size
    have lA' := Nat.lt_of_lt_of_le lA hb.size
    have HB := Lib.hid hb; clear hb
    have HCUR := Lib.hid hcur; clear hcur
    clear c1
    by_cases hlt : i < C.nA
    · obtain ⟨x1, x2⟩ := CA.out i hlt
      have x1' := (HB.out.cell (p := ⟨bA, oA + i, none⟩) lA).trans x1
      have nr := (RA.out i hlt).1
      clear x1
      rw [nr] at x1'
      obtain ⟨y1, y2⟩ := CW.out i (by omega)
      have nr' := (RW.out i hlt).1
      rw [nr'] at y1
      have X2 := Lib.hid x2; clear x2
      have Y2 := Lib.hid y2; clear y2
      have Y1 := Lib.hid y1; clear y1
      clear nr nr'
      go_wp2_with fail
      clear x1' c1'
      go_loopw [26] (fun t wi => ∃ k : Nat, k ≤ (C.RA 0).n ∧ t = .int .i64 k ∧ (∃ cur, wi.heap[w.heap.size]? = some (.cells cur 138 (0, 0)) ∧ Hid (Filled C cur fun f s => f < i ∨ f = i ∧ s < k)) ∧ Below w.heap.size w wi) (fun t _ => (C.RA 0).n - (intOf t).toNat)
      case atStart => exact ⟨0, Nat.zero_le _, rfl, ⟨cur, HCUR.out, Lib.hid ⟨FC.out.1, fun f s h1 h2 h3 => FC.out.2 f s h1 h2 (by omega)⟩⟩, HB.out⟩
      case round =>
        obtain ⟨k, hk, rfl, ⟨cu, hcu, FK⟩, hb⟩ := hrel
        have c2i := (hb.cell (p := ⟨bc, 2, none⟩) lt).trans c2
        have lti := Nat.lt_of_lt_of_le lt hb.size
        have lWi := Nat.lt_of_lt_of_le lW hb.size
        have y1i := (hb.cell (p := ⟨bW, oW + i, none⟩) lW).trans Y1.out
        have BI := Lib.hid hb; clear hb
        have CUI := Lib.hid hcu; clear hcu
        by_cases hkl : k < (C.RA 0).n
        · rcases X2.out with h0 | ⟨ba, oa, ea, la, ca⟩
          · have := (RA.out i hlt).1; omega
          rcases Y2.out with h0 | ⟨bw, ow, ew, lw, cw⟩
          · have := (RW.out i hlt).1; omega
          rw [ew] at y1i
          rw [ea]
          obtain ⟨p1, p2⟩ := ca k (by have := (RA.out i hlt).1; omega)
          obtain ⟨q1, q2⟩ := cw k (by have := (RW.out i hlt).1; omega)
          have p1' := (BI.out.cell (p := ⟨ba, oa + k * 2, none⟩) la).trans p1
          have p2' := (BI.out.cell (p := ⟨ba, oa + k * 2 + 1, none⟩) la).trans p2
          have q1' := (BI.out.cell (p := ⟨bw, ow + k * 2, none⟩) lw).trans q1
          have q2' := (BI.out.cell (p := ⟨bw, ow + k * 2 + 1, none⟩) lw).trans q2
          have la' := Nat.lt_of_lt_of_le la BI.out.size
          have lw' := Nat.lt_of_lt_of_le lw BI.out.size
          have CA' := Lib.hid ca; clear ca p1 p2
          have CW' := Lib.hid cw; clear cw q1 q2
          go_wp2_with fail
          refine wp_region_gw_tail 16 (by kernel_rfl) (by kernel_rfl) ?_
          simp only [List.take_succ_cons, List.take_zero]
          repeat (go_big_quiet_step (fail))
          refine wpQuiet_nil ?_
          rintro _ ⟨z, rfl⟩
          have szw : w.heap.size < wr.heap.size := (Array.getElem?_eq_some_iff.1 CUI.out).1
          obtain ⟨V, hV⟩ : ∃ V, gw ((wr.alloc (.cells #[.int .i64 ((C.RA i).A k), .int .i64 ((C.RA i).B k)] 27))) z = V := ⟨_, rfl⟩
          have BV : Below wr.heap.size wr V := by
            rw [← hV]
            exact (below_alloc _ _).gw z
          rw [hV]
          clear hV
          have BVw := BI.out.trans (BV.mono BI.out.size)
          have VK := Lib.hid ((BV.block w.heap.size szw).trans CUI.out)
          have size := FK.out.1
          have bnd : i * 48 + k * 4 + 3 < cu.size := by omega
          have r0 := cell_of_block VK.out (i * 48 + k * 4) (by omega)
          have r1 := cell_of_block VK.out (i * 48 + k * 4 + 1) (by omega)
          have r2 := cell_of_block VK.out (i * 48 + k * 4 + 2) (by omega)
          have r3 := cell_of_block VK.out (i * 48 + k * 4 + 3) (by omega)
          have f0 := frozen_of_block VK.out (i * 48 + k * 4)
          have f1 := frozen_of_block VK.out (i * 48 + k * 4 + 1)
          have f2 := frozen_of_block VK.out (i * 48 + k * 4 + 2)
          have f3 := frozen_of_block VK.out (i * 48 + k * 4 + 3)
          have BVW := Lib.hid BVw; clear BVw BV
          clear c2i y1i p1' p2' q1' q2'
          simp only [List.drop_succ_cons, List.drop_zero]
          go_wp2_with fail
          go_roundw
          case rel => exact ⟨k + 1, by omega, by go_num, ⟨_, block_set4 VK.out _ _ _ _, Lib.hid (filled_step hlt b2 (by omega) FK.out)⟩, ((((BVW.out.setCell (Nat.le_refl _) _).setCell (Nat.le_refl _) _).setCell (Nat.le_refl _) _).setCell (Nat.le_refl _) _)⟩
          case measure => simp [intOf]; omega
        · obtain rfl : k = (C.RA 0).n := by omega
          go_wp2_with fail
          go_roundw
          case rel => exact ⟨i + 1, by omega, by go_num, ⟨cu, CUI.out, Lib.hid ⟨FK.out.1, fun f s h1 h2 h3 => FK.out.2 f s h1 h2 (by omega)⟩⟩, BI.out⟩
          case measure => simp [intOf]; omega
    · obtain rfl : i = C.nA := by omega
      go_wp2_with fail
      go_ret
      exact ⟨_, rfl, Nat.le_refl _, ⟨cur, HCUR.out, FC.out.1, fun f s h1 h2 _ => FC.out.2 f s h1 h2 h1⟩, HB.out⟩
end Go.Proofs.YtjgnafhbeekebaaGreat.L7

namespace Go.Proofs.YtjgnafhbeekebaaGreat.L7
open Go.RowKit

attribute [local go_sem] gw_cell gw_frozen gw_size

set_option maxHeartbeats 1000000 in
theorem keepCmp_any (f g d : Int) (w : World) (h0 : 0 ≤ f) (h1 : f ≤ 65536) (h2 : 0 ≤ d) (h3 : d ≤ 65536) :
    Calls Tryz.prog 93 #[.agg #[.int .i64 f, .int .i64 g], .int .i64 d] w fun e w' => e = .returned (.int .i64 (f - d)) ∧ Below w.heap.size w w' := by
  go_enter Tryz.func93, Tryz.ntmps93
  go_wp2_with fail
  go_ret
  exact ⟨rfl, below_alloc _ _⟩

set_option maxRecDepth 100000 in
set_option maxHeartbeats 1000000 in
theorem staySearch_any (b off n c : Nat) (d : Int) (F G : Nat → Int) (w : World) (hn : n ≤ 64) (hb : b < w.heap.size) (h2 : 0 ≤ d) (h3 : d ≤ 65536)
    (hc : ∀ i, i < n → w.cell? ⟨b, off + i * 2, none⟩ = some (.int .i64 (F i)) ∧ w.cell? ⟨b, off + i * 2 + 1, none⟩ = some (.int .i64 (G i))) (hr : ∀ i, i < n → 0 ≤ F i ∧ F i ≤ 65536) (hmon : ∀ s t, s ≤ t → t < n → F s ≤ F t) :
    Calls Tryz.prog 92 #[.slice (some ⟨b, off, none⟩) n c, .int .i64 d, .func (.func 93) #[] #[]] w fun e w' => e = .returned (.tuple #[.int .i64 (lb F d n), .bool (foundB F d n)]) ∧ Below w.heap.size w w' := by
  have HC := Lib.hid hc; clear hc
  have HM := Lib.hid hmon; clear hmon
  have HR := Lib.hid hr; clear hr
  go_enter Tryz.func92, Tryz.ntmps92
  go_wp2_with fail
  go_loopw [9, 10] (fun p q wr => ∃ i j : Nat, i ≤ j ∧ j ≤ n ∧ p = .int .i64 i ∧ q = .int .i64 j ∧ (∀ t, t < i → F t < d) ∧ (j < n → d ≤ F j) ∧ ∃ x, wr = gw w x) (fun p q _ => (intOf q - intOf p).toNat)
  case atStart => exact ⟨0, n, Nat.zero_le _, Nat.le_refl _, rfl, rfl, fun _ h => by omega, fun h => by omega, ⟨#[], w.drawn⟩, by simp [gw]⟩
  case round =>
    obtain ⟨i, j, hij, hjn, rfl, rfl, h1, h2', x, rfl⟩ := hrel
    have K1 := Lib.hid h1; clear h1
    have K2 := Lib.hid h2'; clear h2'
    by_cases hlt : i < j
    · obtain ⟨cm, cm'⟩ := HC.out ((i + j) / 2) (by omega)
      obtain ⟨r0, r1⟩ := HR.out ((i + j) / 2) (by omega)
      by_cases hx : F ((i + j) / 2) - d < 0
      · go_wp2_with fail
        refine (Calls.gw_of (keepCmp_any (F ((i + j) / 2)) (G ((i + j) / 2)) d _ r0 r1 h2 h3)).mono ?_
        rintro e w1 ⟨rfl, y, rfl⟩
        go_wp2_with fail
        go_roundw
        case rel => exact ⟨(i + j) / 2 + 1, j, by omega, by omega, by go_num, rfl, fun t ht => Int.lt_of_le_of_lt (HM.out t ((i + j) / 2) (by omega) (by omega)) (by omega), K2.out, y, rfl⟩
        case measure => simp [intOf]; omega
      · go_wp2_with fail
        refine (Calls.gw_of (keepCmp_any (F ((i + j) / 2)) (G ((i + j) / 2)) d _ r0 r1 h2 h3)).mono ?_
        rintro e w1 ⟨rfl, y, rfl⟩
        go_wp2_with fail
        go_roundw
        case rel => exact ⟨i, (i + j) / 2, by omega, by omega, rfl, by go_num, K1.out, fun _ => by omega, y, rfl⟩
        case measure => simp [intOf]; omega
    · obtain rfl : i = j := by omega
      have HI := Lib.hid (lb_unique hjn K1.out (fun h => Int.not_lt.2 (K2.out h)))
      by_cases hin : i < n
      · obtain ⟨ci, ci'⟩ := HC.out i hin
        obtain ⟨r0, r1⟩ := HR.out i hin
        by_cases hx : F i = d
        · have HF := Lib.hid (show foundB F d n = true by unfold foundB; rw [← HI.out]; simp [hin, hx])
          have hx' : ((F i - d) == 0) = true := by simp; omega
          clear hx
          go_wp2_with fail
          refine (Calls.gw_of (keepCmp_any (F i) (G i) d _ r0 r1 h2 h3)).mono ?_
          rintro e w1 ⟨rfl, y, rfl⟩
          go_wp2_with fail
          go_ret2
          exact ⟨by rw [HF.out, ← HI.out]; rfl, below_gw w y⟩
        · have HF := Lib.hid (show foundB F d n = false by unfold foundB; rw [← HI.out]; simp [hx])
          have hx' : ((F i - d) == 0) = false := by simp; omega
          clear hx
          go_wp2_with fail
          refine (Calls.gw_of (keepCmp_any (F i) (G i) d _ r0 r1 h2 h3)).mono ?_
          rintro e w1 ⟨rfl, y, rfl⟩
          go_wp2_with fail
          go_ret2
          exact ⟨by rw [HF.out, ← HI.out]; rfl, below_gw w y⟩
      · have HF := Lib.hid (show foundB F d n = false by unfold foundB; rw [← HI.out]; simp [hin])
        go_wp2_with fail
        go_ret2
        exact ⟨by rw [HF.out, ← HI.out]; rfl, below_gw w x⟩

/-- a day's stay -/
def stayAt (F : Nat → Int) (n : Nat) (d : Int) : Nat := lb F (d + 1) n - 1
theorem stay_lb {F : Nat → Int} {n : Nat} {d : Int} (hm : ∀ i, i + 1 < n → F i < F (i + 1)) (h0 : 0 < lb F (d + 1) n) :
    (lb F (d + 1) n : Nat) = (if foundB F d n then lb F d n + 1 else lb F d n) := by
  have a := lb_le F d n
  have hmon := mono_of (fun i hi => Int.le_of_lt (hm i hi))
  unfold foundB
  split
  · rename_i h
    simp only [Bool.and_eq_true, decide_eq_true_eq] at h
    refine (lb_unique (by omega) (fun t ht => ?_) (fun hlt => ?_)).symm
    · have := hmon t (lb F d n) (by omega) h.1
      omega
    · have := hm (lb F d n) hlt
      omega
  · rename_i h
    simp only [Bool.and_eq_true, decide_eq_true_eq, not_and] at h
    refine (lb_unique a (fun t ht => ?_) (fun hlt => ?_)).symm
    · have := lb_lt F d n t ht
      omega
    · have := lb_stop F d n hlt
      have := h hlt
      omega

set_option maxHeartbeats 1000000 in
theorem floor_any (b off n c bs : Nat) (d : Int) (F G : Nat → Int) (w : World) (hn : n ≤ 64) (hb : b < w.heap.size) (h2 : 0 ≤ d) (h3 : d ≤ 65536)
    (hs : w.cell? ⟨bs, 0, none⟩ = some (.slice (some ⟨b, off, none⟩) n c)) (hbs : bs < w.heap.size)
    (hc : ∀ i, i < n → w.cell? ⟨b, off + i * 2, none⟩ = some (.int .i64 (F i)) ∧ w.cell? ⟨b, off + i * 2 + 1, none⟩ = some (.int .i64 (G i))) (hr : ∀ i, i < n → 0 ≤ F i ∧ F i ≤ 65536) (hm : ∀ i, i + 1 < n → F i < F (i + 1)) (h0 : 0 < lb F (d + 1) n) :
    Calls Tryz.prog 91 #[.int .i64 d, .pointer (some ⟨bs, 0, none⟩)] w fun e w' => e = .returned (.int .i64 (G (stayAt F n d))) ∧ Below w.heap.size w w' := by
  have SE := Lib.hid (staySearch_any b off n c d F G w hn hb h2 h3 hc hr (mono_of (fun i hi => Int.le_of_lt (hm i hi))))
  have SL := stay_lb hm h0
  have SA : stayAt F n d = lb F (d + 1) n - 1 := rfl
  have LE := lb_le F (d + 1) n
  obtain ⟨s, hsd⟩ : ∃ s, stayAt F n d = s := ⟨_, rfl⟩
  rw [hsd] at SA ⊢
  obtain ⟨q, hq⟩ : ∃ q, lb F d n = q := ⟨_, rfl⟩
  rw [hq] at SL SE
  obtain ⟨-, cg⟩ := hc s (by omega)
  clear hsd hq hc hr hm
  cases hf : foundB F d n with
  | true =>
    rw [hf] at SL SE
    obtain rfl : q = s := by simp at SL; omega
    have e1 : q < n := by simp at SL; omega
    clear SL SA LE h0 hf
    go_enter Tryz.func91, Tryz.ntmps91
    go_wp2_with fail
    refine SE.out.mono ?_
    rintro e w1 ⟨rfl, hb1⟩
    obtain ⟨x, rfl⟩ := gw_of_below hb1
    go_wp2_with fail
    go_ret
    exact ⟨rfl, hb1⟩
  | false =>
    rw [hf] at SL SE
    obtain rfl : q = s + 1 := by simp at SL; omega
    have e1 : s < n := by simp at SL; omega
    have e2 : ((s + 1 : Nat) : Int) - 1 = s := by omega
    clear SL SA LE h0 hf
    go_enter Tryz.func91, Tryz.ntmps91
    go_wp2_with fail
    refine SE.out.mono ?_
    rintro e w1 ⟨rfl, hb1⟩
    obtain ⟨x, rfl⟩ := gw_of_below hb1
    go_wp2_with fail
    go_ret
    exact ⟨rfl, hb1⟩
end Go.Proofs.YtjgnafhbeekebaaGreat.L7

namespace Go.Proofs.YtjgnafhbeekebaaGreat.L7
open Go.RowKit

attribute [local go_sem] gw_cell gw_frozen gw_size

theorem infoSpans : (Tryz.prog.info? 136).map (fun i => (i.zero, i.size)) = some (some (.agg #[.int .i64 0, .int .i64 0, .int .i64 0, .int .i64 0]), 4) := by kernel_rfl

/-- a day's season -/
def seasonOf (C : Clim) (day : Int) : Nat := (day / C.days % (C.RA 0).n).toNat
theorem seasonOf_lt {C : Clim} {day : Int} (h : 0 < (C.RA 0).n) : seasonOf C day < (C.RA 0).n := by
  unfold seasonOf
  have a := Int.emod_nonneg (day / C.days) (show ((C.RA 0).n : Int) ≠ 0 by omega)
  have b := Int.emod_lt_of_pos (day / C.days) (show (0 : Int) < (C.RA 0).n by omega)
  omega

set_option maxRecDepth 100000 in
set_option maxHeartbeats 4000000 in
theorem season_any (C : Clim) (bc B f : Nat) (day : Int) (w : World) (hC : C.At w bc) (hB : climB C = true) (hY : YearsAt C w B) (hf : f < C.nA) (d0 : 0 ≤ day) (d1 : day ≤ 65536) :
    Calls Tryz.prog 96 #[.pointer (some ⟨B, f * 48, none⟩), .pointer (some ⟨bc, 0, none⟩), .int .i64 day] w fun e w' => e = .returned (.tuple #[.agg #[.int .i64 ((C.RA f).A (seasonOf C day)), .int .i64 ((C.RA f).B (seasonOf C day))], .agg #[.int .i64 ((C.RW f).A (seasonOf C day)), .int .i64 ((C.RW f).B (seasonOf C day))]]) ∧ Below w.heap.size w w' := by
  have c0 := hC.c0
  have c1 := hC.c1
  have lt := hC.lt
  obtain ⟨⟨e0, e1⟩, ⟨a1, a2⟩, nw, ⟨b1, b2⟩, -, -⟩ := climB_t hB
  clear hB
  obtain ⟨bA, oA, eA, lA, cA⟩ := hC.i.ra.first (by omega)
  rw [eA] at c1
  clear hC eA
  have SL := seasonOf_lt (C := C) (day := day) (by omega)
  have SE : day / C.days % ((C.RA 0).n : Int) = (seasonOf C day : Nat) := by
    unfold seasonOf
    have a := Int.emod_nonneg (day / C.days) (show ((C.RA 0).n : Int) ≠ 0 by omega)
    omega
  have Q0 : 0 ≤ day / C.days := Int.ediv_nonneg d0 (by omega)
  obtain ⟨s, hs⟩ : ∃ s, seasonOf C day = s := ⟨_, rfl⟩
  rw [hs] at SL SE ⊢
  clear hs
  obtain ⟨cur, hcur, hsz, hfl⟩ := hY
  obtain ⟨y0, y1, y2, y3⟩ := hfl f s hf SL trivial
  have lB := (Array.getElem?_eq_some_iff.1 hcur).1
  have G : ∀ k v, cur[k]? = some v → w.cell? ⟨B, k, none⟩ = some v := fun k v hk => by
    obtain ⟨h, rfl⟩ := Array.getElem?_eq_some_iff.1 hk
    exact cell_of_block hcur k h
  have z0 := G _ _ y0
  have z1 := G _ _ y1
  have z2 := G _ _ y2
  have z3 := G _ _ y3
  clear G y0 y1 y2 y3 hfl hcur hsz
  generalize (C.RA f).A s = p at *
  generalize (C.RA f).B s = q at *
  generalize (C.RW f).A s = r at *
  generalize (C.RW f).B s = t at *
  go_enter Tryz.func96, Tryz.ntmps96
  go_wp2_with fail
  obtain ⟨W1, hW1⟩ : ∃ W1, (w.alloc (.cells #[.int .i64 0, .int .i64 0] 27)).alloc (.cells #[.int .i64 0, .int .i64 0] 27) = W1 := ⟨_, rfl⟩
  have hB1 : Below w.heap.size w W1 := by rw [← hW1]; exact (below_alloc _ _).alloc (by simp) _
  have m0 : W1.heap[w.heap.size]? = some (.cells #[.int .i64 0, .int .i64 0] 27 (0, 0)) := by rw [← hW1]; exact ((below_alloc (w.alloc _) _).block w.heap.size (by simp)).trans (World.alloc_heap_new w _)
  have m1 : W1.heap[w.heap.size + 1]? = some (.cells #[.int .i64 0, .int .i64 0] 27 (0, 0)) := by
    rw [← hW1]
    have h := World.alloc_heap_new (w.alloc (.cells #[.int .i64 0, .int .i64 0] 27)) (.cells #[.int .i64 0, .int .i64 0] 27)
    rw [show (w.alloc (.cells #[.int .i64 0, .int .i64 0] 27)).heap.size = w.heap.size + 1 by simp] at h
    exact h
  have sz1 : w.heap.size + 1 < W1.heap.size := (Array.getElem?_eq_some_iff.1 m1).1
  rw [hW1]
  have z0' := (hB1.cell (p := ⟨B, f * 48 + s * 4, none⟩) lB).trans z0
  have z1' := (hB1.cell (p := ⟨B, f * 48 + s * 4 + 1, none⟩) lB).trans z1
  have z2' := (hB1.cell (p := ⟨B, f * 48 + s * 4 + 2, none⟩) lB).trans z2
  have z3' := (hB1.cell (p := ⟨B, f * 48 + s * 4 + 3, none⟩) lB).trans z3
  have c0' := (hB1.cell (p := ⟨bc, 0, none⟩) lt).trans c0
  have c1' := (hB1.cell (p := ⟨bc, 1, none⟩) lt).trans c1
  have cA' := (hB1.cell (p := ⟨bA, oA, none⟩) lA).trans cA
  have lB' := Nat.lt_of_lt_of_le lB hB1.size
  have lt' := Nat.lt_of_lt_of_le lt hB1.size
  have lA' := Nat.lt_of_lt_of_le lA hB1.size
  have HB1 := Lib.hid hB1; clear hB1 hW1
  have M0 := Lib.hid m0; clear m0
  have M1 := Lib.hid m1; clear m1
  clear z0 z1 z2 z3 c0 c1 cA
  refine wp_region_box1 [true, true, true, true, true, true, true, true, true, true, true, true, true, true, true, true, true, true, false, false] 18 19 #[.int .i64 0, .int .i64 0, .int .i64 0, .int .i64 0] #[.int .i64 p, .int .i64 q, .int .i64 r, .int .i64 t] (by kernel_rfl) rfl rfl rfl (by kernel_rfl) rfl (by kernel_rfl) infoSpans rfl rfl (by simp [Value.oneCell']) ?_
  apply Exists.intro
  refine ⟨fun S hS hx => ?_, ?_, ?_⟩
  · obtain ⟨x0, hx0⟩ := hx
    haveI : Nonempty (GrewS W1 S) := ⟨⟨x0, hx0⟩⟩
    simp only [pickM]
    repeat (go_big_quiet_step (fail))
    exact wpQuiet_nil rfl
  · rfl
  · intro K w5 hBw hblk hb5
    have s0 : w5.cell? ⟨K, 0, none⟩ = some (.int .i64 p) := cell_of_block hblk 0 (by simp)
    have s1 : w5.cell? ⟨K, 1, none⟩ = some (.int .i64 q) := cell_of_block hblk 1 (by simp)
    have s2 : w5.cell? ⟨K, 2, none⟩ = some (.int .i64 r) := cell_of_block hblk 2 (by simp)
    have s3 : w5.cell? ⟨K, 3, none⟩ = some (.int .i64 t) := cell_of_block hblk 3 (by simp)
    have n0 := (hb5.block w.heap.size (by omega)).trans M0.out
    have n1 := (hb5.block (w.heap.size + 1) sz1).trans M1.out
    have g0 := cell_of_block n0 0 (by simp)
    have g1 := cell_of_block n0 1 (by simp)
    have g2 := cell_of_block n1 0 (by simp)
    have g3 := cell_of_block n1 1 (by simp)
    have h0 := frozen_of_block n0 0
    have h1 := frozen_of_block n0 1
    have h2 := frozen_of_block n1 0
    have h3 := frozen_of_block n1 1
    have nk0 : w.heap.size ≠ K := by omega
    have nk1 : w.heap.size + 1 ≠ K := by omega
    have nk0' := nk0.symm
    have nk1' := nk1.symm
    have B5 := Lib.hid (thru hb5 HB1.out)
    clear n0 n1 hb5 hblk M0 M1 HB1 z0' z1' z2' z3' c0' c1' cA'
    go_upto_region 2 with (fail)
    simp only [Act.put, List.setIfInBounds_toArray, List.set_cons_succ, List.set_cons_zero]
    go_region
    all_goals
      go_wp2_with fail
      refine bodyPost_ret (v := .tuple #[.agg #[.int .i64 p, .int .i64 q], .agg #[.int .i64 r, .int .i64 t]]) (by simp [results, Tryz.results96, go_sem, *]) rfl ⟨rfl, ?_⟩
      exact (((((B5.out.setCell (Nat.le_refl _) _).setCell (Nat.le_refl _) _).setCell (by simp) _).setCell (by simp) _).drew)
end Go.Proofs.YtjgnafhbeekebaaGreat.L7
