/- Contract of years. No conditions beyond each theorem's own. -/
import Derived.Test.YtljofnmgddfljaaBe
import Derived.Laws.MakeOwn
set_option linter.unusedVariables false
set_option linter.unusedSimpArgs false
set_option linter.unusedSectionVars false
set_option linter.constructorNameAsVariable false
namespace Go.Proofs.Ytljofnmgddfljaa
open Go.RowKit

attribute [local go_sem] gw_cell gw_frozen gw_size

/-- the shares of all floors, so far as P says -/
def Filled (C : Clim) (cur : Array Value) (P : Nat → Nat → Prop) : Prop :=
  cur.size = C.nA * 48 ∧ ∀ f s, f < C.nA → s < (C.RA 0).n → P f s → cur[f * 48 + s * 4]? = some (.int .i64 ((C.RA f).A s)) ∧ cur[f * 48 + s * 4 + 1]? = some (.int .i64 ((C.RA f).B s)) ∧ cur[f * 48 + s * 4 + 2]? = some (.int .i64 ((C.RW f).A s)) ∧ cur[f * 48 + s * 4 + 3]? = some (.int .i64 ((C.RW f).B s))
def YearsAt (C : Clim) (w : World) (B : Nat) : Prop := ∃ cur, w.heap[B]? = some (.cells cur 126 (0, 0)) ∧ Filled C cur fun _ _ => True
theorem climB_t {C : Clim} (h : climB C = true) : (1 ≤ C.days ∧ C.days ≤ 366) ∧ (1 ≤ C.nA ∧ C.nA ≤ 8) ∧ C.nW = C.nA ∧ (1 ≤ (C.RA 0).n ∧ (C.RA 0).n ≤ 12) ∧
    (∀ i, i < C.nA → (C.RA i).n = (C.RA 0).n ∧ ∀ s, s < (C.RA 0).n → 0 ≤ (C.RA i).A s ∧ (C.RA i).A s ≤ (C.RA i).B s ∧ (C.RA i).B s ≤ 100000000) ∧
    (∀ i, i < C.nA → (C.RW i).n = (C.RA 0).n ∧ ∀ s, s < (C.RA 0).n → 0 ≤ (C.RW i).A s ∧ (C.RW i).A s ≤ (C.RW i).B s ∧ (C.RW i).B s ≤ 100000000) := by
  simp only [climB, climH, Bool.and_eq_true, decide_eq_true_eq] at h
  obtain ⟨⟨h1, h2, h3, h4⟩, h5, h6⟩ := h
  have b1 := inB_t.1 h1
  have b2 := inB_t.1 h2
  have b4 := inB_t.1 h4
  have R : ∀ r : RowD, rowB (C.RA 0).n r = true → r.n = (C.RA 0).n ∧ ∀ s, s < (C.RA 0).n → 0 ≤ r.A s ∧ r.A s ≤ r.B s ∧ r.B s ≤ 100000000 := fun r h => by
    simp only [rowB, Bool.and_eq_true, decide_eq_true_eq] at h
    exact ⟨h.1, fun s hs => spanB_t.1 (allB_t.1 h.2 s (by omega))⟩
  exact ⟨b1, by omega, h3, by omega, fun i hi => R _ (allB_t.1 h5 i hi), fun i hi => R _ (allB_t.1 h6 i (by omega))⟩

theorem block_set4 {W : World} {b k : Nat} {cur : Array Value} {t : TypeId} (h : W.heap[b]? = some (.cells cur t (0, 0))) (x y z u : Value) :
    ((((W.setCell ⟨b, k, none⟩ x).setCell ⟨b, k + 1, none⟩ y).setCell ⟨b, k + 2, none⟩ z).setCell ⟨b, k + 3, none⟩ u).heap[b]? = some (.cells ((((cur.setIfInBounds k x).setIfInBounds (k + 1) y).setIfInBounds (k + 2) z).setIfInBounds (k + 3) u) t (0, 0)) :=
  block_set _ u (block_set _ z (block_set _ y (block_set _ x h)))
/-- four cells of a new season -/
theorem filled_step {C : Clim} {cur : Array Value} {i k : Nat} (hi : i < C.nA) (hw : (C.RA 0).n ≤ 12) (hk : k < 12)
    (h : Filled C cur fun f s => f < i ∨ f = i ∧ s < k) :
    Filled C ((((cur.setIfInBounds (i * 48 + k * 4) (.int .i64 ((C.RA i).A k))).setIfInBounds (i * 48 + k * 4 + 1) (.int .i64 ((C.RA i).B k))).setIfInBounds (i * 48 + k * 4 + 2) (.int .i64 ((C.RW i).A k))).setIfInBounds (i * 48 + k * 4 + 3) (.int .i64 ((C.RW i).B k))) fun f s => f < i ∨ f = i ∧ s < k + 1 := by
  obtain ⟨hs, hf⟩ := h
  refine ⟨by simp [hs], fun f s h1 h2 h3 => ?_⟩
  by_cases e : f = i ∧ s = k
  · obtain ⟨rfl, rfl⟩ := e
    have : f * 48 + s * 4 + 3 < cur.size := by omega
    simp [Array.getElem?_setIfInBounds]
    omega
  · have hh := hf f s h1 h2 (by omega)
    simp only [Array.getElem?_setIfInBounds]
    refine ⟨?_, ?_, ?_, ?_⟩
    · rw [if_neg, if_neg, if_neg, if_neg]
      · exact hh.1
      all_goals omega
    · rw [if_neg, if_neg, if_neg, if_neg]
      · exact hh.2.1
      all_goals omega
    · rw [if_neg, if_neg, if_neg, if_neg]
      · exact hh.2.2.1
      all_goals omega
    · rw [if_neg, if_neg, if_neg, if_neg]
      · exact hh.2.2.2
      all_goals omega

set_option maxRecDepth 100000 in
set_option maxHeartbeats 4000000 in
theorem years_any (C : Clim) (bc : Nat) (w : World) (hC : C.At w bc) (hB : climB C = true) :
    Calls Try.prog 74 #[.pointer (some ⟨bc, 0, none⟩)] w fun e w' => ∃ B, e = .returned (.slice (some ⟨B, 0, none⟩) C.nA C.nA) ∧ w.heap.size ≤ B ∧ YearsAt C w' B ∧ Below w.heap.size w w' := by
  have c1 := hC.c1
  have c2 := hC.c2
  have lt := hC.lt
  obtain ⟨_, ⟨a1, a2⟩, nw, ⟨b1, b2⟩, ra, rw'⟩ := climB_t hB
  clear hB
  have RA := Lib.hid ra; clear ra
  have RW := Lib.hid rw'; clear rw'
  obtain ⟨bA, oA, eA, lA, cA⟩ := hC.i.ra.get (by omega)
  obtain ⟨bW, oW, eW, lW, cW⟩ := hC.i.rw.get (by omega)
  rw [eA] at c1
  rw [eW] at c2
  clear hC eA eW
  have CA := Lib.hid cA; clear cA
  have CW := Lib.hid cW; clear cW
  obtain ⟨M, MS, MK⟩ : ∃ M : Array Value, M.size = C.nA * 48 ∧ (Instr.makeSlice 118 (.int .i64 (C.nA : Int)) (.int .i64 (C.nA : Int))).run Try.prog w = .ok (.slice (some ⟨w.heap.size, 0, none⟩) C.nA C.nA) (w.alloc (.cells M 126)) := by
    have := run_make (P := Try.prog) w 118 126 _ _ rfl rfl rfl .i64 .i64 C.nA C.nA (by omega) (by omega) (by show (384 : Int) * _ ≤ _; omega) (by omega)
    simp only [Int.toNat_natCast] at this
    exact ⟨_, size_madeCells _ _, this⟩
  go_enter Try.func74, Try.ntmps74
  go_wp2_with fail
  clear MK
  go_loopw [15] (fun t wr => ∃ i : Nat, i ≤ C.nA ∧ t = .int .i64 i ∧ (∃ cur, wr.heap[w.heap.size]? = some (.cells cur 126 (0, 0)) ∧ Hid (Filled C cur fun f s => f < i)) ∧ Below w.heap.size w wr) (fun t _ => C.nA - (intOf t).toNat)
  case atStart => exact ⟨0, Nat.zero_le _, rfl, ⟨M, World.alloc_heap_new w _, Lib.hid ⟨MS, fun f s h1 h2 h3 => by omega⟩⟩, below_alloc _ _⟩
  case round =>
    obtain ⟨i, hi, rfl, ⟨cur, hcur, FC⟩, hb⟩ := hrel
    have c1' := (hb.cell (p := ⟨bc, 1, none⟩) lt).trans c1
    have lt' := Nat.lt_of_lt_of_le lt hb.size
    have lA' := Nat.lt_of_lt_of_le lA hb.size
    have HB := Lib.hid hb; clear hb
    have HCUR := Lib.hid hcur; clear hcur
    clear c1
    by_cases hlt : i < C.nA
    · obtain ⟨x1, x2⟩ := CA.out i hlt
      have x1' := (HB.out.cell (p := ⟨bA, oA + i, none⟩) lA).trans x1
      have nr := (RA.out i hlt).1
      clear x1
      rw [nr] at x1'
      obtain ⟨y1, y2⟩ := CW.out i (by omega)
      have nr' := (RW.out i hlt).1
      rw [nr'] at y1
      have X2 := Lib.hid x2; clear x2
      have Y2 := Lib.hid y2; clear y2
      have Y1 := Lib.hid y1; clear y1
      clear nr nr'
      go_wp2_with fail
      clear x1' c1'
      go_loopw [26] (fun t wi => ∃ k : Nat, k ≤ (C.RA 0).n ∧ t = .int .i64 k ∧ (∃ cur, wi.heap[w.heap.size]? = some (.cells cur 126 (0, 0)) ∧ Hid (Filled C cur fun f s => f < i ∨ f = i ∧ s < k)) ∧ Below w.heap.size w wi) (fun t _ => (C.RA 0).n - (intOf t).toNat)
      case atStart => exact ⟨0, Nat.zero_le _, rfl, ⟨cur, HCUR.out, Lib.hid ⟨FC.out.1, fun f s h1 h2 h3 => FC.out.2 f s h1 h2 (by omega)⟩⟩, HB.out⟩
      case round =>
        obtain ⟨k, hk, rfl, ⟨cu, hcu, FK⟩, hb⟩ := hrel
        have c2i := (hb.cell (p := ⟨bc, 2, none⟩) lt).trans c2
        have lti := Nat.lt_of_lt_of_le lt hb.size
        have lWi := Nat.lt_of_lt_of_le lW hb.size
        have y1i := (hb.cell (p := ⟨bW, oW + i, none⟩) lW).trans Y1.out
        have BI := Lib.hid hb; clear hb
        have CUI := Lib.hid hcu; clear hcu
        by_cases hkl : k < (C.RA 0).n
        · rcases X2.out with h0 | ⟨ba, oa, ea, la, ca⟩
          · have := (RA.out i hlt).1; omega
          rcases Y2.out with h0 | ⟨bw, ow, ew, lw, cw⟩
          · have := (RW.out i hlt).1; omega
          rw [ew] at y1i
          rw [ea]
          obtain ⟨p1, p2⟩ := ca k (by have := (RA.out i hlt).1; omega)
          obtain ⟨q1, q2⟩ := cw k (by have := (RW.out i hlt).1; omega)
          have p1' := (BI.out.cell (p := ⟨ba, oa + k * 2, none⟩) la).trans p1
          have p2' := (BI.out.cell (p := ⟨ba, oa + k * 2 + 1, none⟩) la).trans p2
          have q1' := (BI.out.cell (p := ⟨bw, ow + k * 2, none⟩) lw).trans q1
          have q2' := (BI.out.cell (p := ⟨bw, ow + k * 2 + 1, none⟩) lw).trans q2
          have la' := Nat.lt_of_lt_of_le la BI.out.size
          have lw' := Nat.lt_of_lt_of_le lw BI.out.size
          have CA' := Lib.hid ca; clear ca p1 p2
          have CW' := Lib.hid cw; clear cw q1 q2
          go_wp2_with fail
          refine wp_region_gw_tail 16 (by kernel_rfl) (by kernel_rfl) ?_
          simp only [List.take_succ_cons, List.take_zero]
          repeat (go_big_quiet_step (fail))
          refine wpQuiet_nil ?_
          rintro _ ⟨z, rfl⟩
          have szw : w.heap.size < wr.heap.size := (Array.getElem?_eq_some_iff.1 CUI.out).1
          obtain ⟨V, hV⟩ : ∃ V, gw ((wr.alloc (.cells #[.int .i64 ((C.RA i).A k), .int .i64 ((C.RA i).B k)] 26))) z = V := ⟨_, rfl⟩
          have BV : Below wr.heap.size wr V := by
            rw [← hV]
            exact (below_alloc _ _).gw z
          rw [hV]
          clear hV
          have BVw := BI.out.trans (BV.mono BI.out.size)
          have VK := Lib.hid ((BV.block w.heap.size szw).trans CUI.out)
          have size := FK.out.1
          have bnd : i * 48 + k * 4 + 3 < cu.size := by omega
          have r0 := cell_of_block VK.out (i * 48 + k * 4) (by omega)
          have r1 := cell_of_block VK.out (i * 48 + k * 4 + 1) (by omega)
          have r2 := cell_of_block VK.out (i * 48 + k * 4 + 2) (by omega)
          have r3 := cell_of_block VK.out (i * 48 + k * 4 + 3) (by omega)
          have f0 := frozen_of_block VK.out (i * 48 + k * 4)
          have f1 := frozen_of_block VK.out (i * 48 + k * 4 + 1)
          have f2 := frozen_of_block VK.out (i * 48 + k * 4 + 2)
          have f3 := frozen_of_block VK.out (i * 48 + k * 4 + 3)
          have BVW := Lib.hid BVw; clear BVw BV
          clear c2i y1i p1' p2' q1' q2'
          simp only [List.drop_succ_cons, List.drop_zero]
          go_wp2_with fail
          go_roundw
          case rel => exact ⟨k + 1, by omega, by go_num, ⟨_, block_set4 VK.out _ _ _ _, Lib.hid (filled_step hlt b2 (by omega) FK.out)⟩, ((((BVW.out.setCell (Nat.le_refl _) _).setCell (Nat.le_refl _) _).setCell (Nat.le_refl _) _).setCell (Nat.le_refl _) _)⟩
          case measure => simp [intOf]; omega
        · obtain rfl : k = (C.RA 0).n := by omega
          go_wp2_with fail
          go_roundw
          case rel => exact ⟨i + 1, by omega, by go_num, ⟨cu, CUI.out, Lib.hid ⟨FK.out.1, fun f s h1 h2 h3 => FK.out.2 f s h1 h2 (by omega)⟩⟩, BI.out⟩
          case measure => simp [intOf]; omega
    · obtain rfl : i = C.nA := by omega
      go_wp2_with fail
      go_ret
      exact ⟨_, rfl, Nat.le_refl _, ⟨cur, HCUR.out, FC.out.1, fun f s h1 h2 _ => FC.out.2 f s h1 h2 h1⟩, HB.out⟩
end Go.Proofs.Ytljofnmgddfljaa
