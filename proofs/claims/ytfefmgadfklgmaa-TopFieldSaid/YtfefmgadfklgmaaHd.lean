/- Contract of a step. No conditions beyond each theorem's own. -/
import Derived.Test.YtfefmgadfklgmaaHc
import Derived.Carry
import Derived.BigQuiet
import Derived.Great.BuildSlice
set_option linter.unusedVariables false
set_option linter.unusedSimpArgs false
set_option linter.unusedSectionVars false
set_option linter.constructorNameAsVariable false
namespace Go.Proofs.Ytfefmgadfklgmaa.L2
open Go.RowKit

attribute [local go_sem] gw_cell gw_frozen gw_size

def allN (n : Nat) (p : Nat → Bool) : Bool := (List.range n).all p
theorem allN_t {n : Nat} {p : Nat → Bool} : allN n p = true ↔ ∀ i, i < n → p i = true := by simp [allN]
theorem allN_f {n j : Nat} {p : Nat → Bool} (hj : j < n) (h : p j = false) : allN n p = false := by
  cases e : allN n p with
  | false => rfl
  | true => rw [allN_t.1 e j hj] at h; cases h
def Vt.lo (v : Vt) (j : Nat) : Int := [v.dl, v.wl, v.pl, v.tl, v.gl, v.rl, v.sl].getD j 0
def Vt.hi (v : Vt) (j : Nat) : Int := [v.dh, v.wh, v.ph, v.th, v.gh, v.rh, v.sh].getD j 0
/-- the error of what is there behind a step -/
def Vt.fin (v : Vt) : Int := if allN 3 (fun j => decide (v.lo j ≤ v.hi j)) then (if allN 7 (fun j => decide (v.hi j ≤ 1099511627776)) then 0 else 12) else 4
/-- how a step ends -/
def StepEnd (B : Nat) (v : Vt) (w : World) (e : Ending) (w' : World) : Prop := w.grownBy w' (some B) ∧ ((v.fin = 0 ∧ e = .returned (.tuple #[]) ∧ w'.heap[B]? = some (.cells v.cells 84 (0, 0))) ∨ (v.fin ≠ 0 ∧ e = .panicked (misfit v.fin)))

set_option maxRecDepth 100000 in
set_option maxHeartbeats 8000000 in
theorem do_core (g : Nat) (eg : ∀ args w, (callFunc g args).run Try.prog w = .ok (.enter g args) w) (B : Nat) (v v1 : Vt) (k a b : Int) (w : World) (hB : w.heap[B]? = some (.cells v.cells 84 (0, 0))) (hs : stepB k a b = true)
    (hix : ∀ w, (Instr.index 109 stepsV (.int .i64 k)).run Try.prog w = .ok (.func (.func g) #[] #[]) w)
    (HC : ∀ W, W.heap[B]? = some (.cells v.cells 84 (0, 0)) → Calls Try.prog g #[.pointer (some ⟨B, 0, none⟩), .int .i64 a, .int .i64 b] W (Done B v1 W)) :
    Calls Try.prog 23 #[.pointer (some ⟨B, 0, none⟩), .agg #[.int .i64 k, .int .i64 a, .int .i64 b]] w (StepEnd B v1 w) := by
  obtain ⟨W1, hW1⟩ : ∃ W1, w.alloc (.cells #[.int .i64 k, .int .i64 a, .int .i64 b] 70) = W1 := ⟨_, rfl⟩
  have hBc : Below w.heap.size w W1 := by rw [← hW1]; exact below_alloc _ _
  have zc0 : W1.heap[w.heap.size]? = some (.cells #[.int .i64 k, .int .i64 a, .int .i64 b] 70 (0, 0)) := by rw [← hW1]; exact alloc_at rfl
  have c00 : W1.cell? ⟨w.heap.size, 0, none⟩ = some (.int .i64 k) := cell_of_block zc0 0 (by simp)
  have c01 : W1.cell? ⟨w.heap.size, 1, none⟩ = some (.int .i64 a) := cell_of_block zc0 1 (by simp)
  have c02 : W1.cell? ⟨w.heap.size, 2, none⟩ = some (.int .i64 b) := cell_of_block zc0 2 (by simp)
  have lc0 := (Array.getElem?_eq_some_iff.1 zc0).1
  clear zc0
  have HBc := Lib.hid hBc; clear hBc
  have HWc := Lib.hid hW1; clear hW1
  have IS := isStep_any k a b
  rw [hs] at IS
  have IS := Lib.hid IS
  have lB := (Array.getElem?_eq_some_iff.1 hB).1
  have HB := Lib.hid ((HBc.out.block _ lB).trans hB)
  have HCL := Lib.hid (fun W h => (show Calls Try.prog g _ W (fun e w2 => e = .returned (.tuple #[]) ∧ w2.heap[B]? = some (.cells v1.cells 84 (0, 0)) ∧ W.grownBy w2 (some B)) from HC W h))
  clear hB hs HC
  go_enter Try.func23, Try.ntmps23
  go_upto_region 1 with (fail)
  rw [HWc.out]
  go_wp2_with fail
  refine (Calls.grown (IS.out _)).mono ?_
  rintro e w2 ⟨rfl, z1, rfl⟩
  go_wp2_with fail
  refine (need_ok _ _).mono ?_
  rintro e w2 ⟨rfl, rfl⟩
  go_upto_region 2 with (fail)
  refine wp_region_gw_tail2 9 (by kernel_rfl) (by kernel_rfl) ?_
  simp only [List.take_succ_cons, List.take_zero]
  repeat (go_big_quiet_step ((go_at_call 44; with_reducible exact Calls.gw_of (steps_any _))))
  refine wpQuiet_nil ?_
  rintro _ ⟨z2, rfl⟩
  simp only [List.drop_succ_cons, List.drop_zero]
  go_wp2_with (go_at_fn g; refine (HCL.out _ (gw_keep HB.out z2)).mono ?_; rintro e w2 ⟨rfl, hb2, hg2⟩)
  clear c00 c01 c02
  have l2 := (Array.getElem?_eq_some_iff.1 hb2).1
  have HB2 := Lib.hid hb2
  have G2 := Lib.hid (grownBy_trans (grownBy_of_below (HBc.out.gw z2) (some B)) hg2)
  clear hb2 hg2
  have c0 : w2.cell? ⟨B, 0, none⟩ = some (.int .i64 v1.dl) := cell_of_block HB2.out 0 (by simp [Vt.cells])
  have c1 : w2.cell? ⟨B, 1, none⟩ = some (.int .i64 v1.dh) := cell_of_block HB2.out 1 (by simp [Vt.cells])
  have c2 : w2.cell? ⟨B, 2, none⟩ = some (.int .i64 v1.wl) := cell_of_block HB2.out 2 (by simp [Vt.cells])
  have c3 : w2.cell? ⟨B, 3, none⟩ = some (.int .i64 v1.wh) := cell_of_block HB2.out 3 (by simp [Vt.cells])
  have c4 : w2.cell? ⟨B, 4, none⟩ = some (.int .i64 v1.pl) := cell_of_block HB2.out 4 (by simp [Vt.cells])
  have c5 : w2.cell? ⟨B, 5, none⟩ = some (.int .i64 v1.ph) := cell_of_block HB2.out 5 (by simp [Vt.cells])
  go_upto_region 3 with (fail)
  go_region
  clear c0 c1 c2 c3 c4 c5
  obtain ⟨W5, hW5⟩ : ∃ V, (w2.alloc (.cells #[.int .i64 v1.dl, .int .i64 v1.dh, .int .i64 v1.wl, .int .i64 v1.wh, .int .i64 v1.pl, .int .i64 v1.ph] 82)).drew = V := ⟨_, rfl⟩
  have bW5 : Below w2.heap.size w2 W5 := by rw [← hW5]; exact (below_alloc _ _).drew
  have qW5 : W5.heap[w2.heap.size]? = some (.cells #[.int .i64 v1.dl, .int .i64 v1.dh, .int .i64 v1.wl, .int .i64 v1.wh, .int .i64 v1.pl, .int .i64 v1.ph] 82 (0, 0)) := by rw [← hW5]; exact alloc_at rfl
  have SP3 := Lib.hid (show ∀ j, j < 3 → W5.cell? ⟨w2.heap.size, j * 2, none⟩ = some (.int .i64 (v1.lo j)) ∧ W5.cell? ⟨w2.heap.size, j * 2 + 1, none⟩ = some (.int .i64 (v1.hi j)) from fun j hj => by rcases (show j = 0 ∨ j = 1 ∨ j = 2 by omega) with rfl | rfl | rfl <;> exact ⟨cell_of_block qW5 _ (by simp), cell_of_block qW5 _ (by simp)⟩)
  have lW5 := (Array.getElem?_eq_some_iff.1 qW5).1
  rw [hW5]
  have HB5 := Lib.hid ((bW5.block B (Array.getElem?_eq_some_iff.1 HB2.out).1).trans HB2.out)
  have GW5 := Lib.hid (grownBy_trans G2.out (grownBy_of_below bW5 (some B)))
  clear hW5 bW5 qW5
  go_upto_region 4 with (fail)
  go_loopw [35] (fun s wx => ∃ j : Nat, j ≤ 3 ∧ s = .int .i64 (j : Int) ∧ Hid (∀ i, i < j → v1.lo i ≤ v1.hi i) ∧ ∃ x, wx = gw W5 x) (fun s _ => 3 - (intOf s).toNat)
  case atStart => exact ⟨0, Nat.zero_le _, rfl, Lib.hid (fun i hi => absurd hi (Nat.not_lt_zero i)), ⟨#[], W5.drawn⟩, by simp [gw]⟩
  case round =>
    obtain ⟨j, hj, rfl, HJ, z, rfl⟩ := hrel
    by_cases hlt : j < 3
    · have hji : (j : Int) < 3 := by omega
      obtain ⟨y0, y1⟩ := SP3.out j hlt
      obtain ⟨lo, hlo⟩ : ∃ x, v1.lo j = x := ⟨_, rfl⟩
      obtain ⟨hi, hhi⟩ : ∃ x, v1.hi j = x := ⟨_, rfl⟩
      rw [hlo] at y0
      rw [hhi] at y1
      have HLO := Lib.hid hlo; have HHI := Lib.hid hhi; have HLT := Lib.hid hlt
      clear hlo hhi hlt
      obtain ⟨Wr, hWr⟩ : ∃ V, gw W5 z = V := ⟨_, rfl⟩
      have bWr : Below W5.heap.size W5 Wr := by rw [← hWr]; exact below_gw _ z
      rw [hWr]
      clear hWr
      replace y0 := (bWr.cell (p := ⟨w2.heap.size, j * 2, none⟩) lW5).trans y0
      replace y1 := (bWr.cell (p := ⟨w2.heap.size, j * 2 + 1, none⟩) lW5).trans y1
      have lr : w2.heap.size < Wr.heap.size := Nat.lt_of_lt_of_le lW5 bWr.size
      have BW := Lib.hid bWr
      clear bWr
      by_cases ok : lo ≤ hi
      · have dk : decide (lo ≤ hi) = true := by simp; omega
        have HOK := Lib.hid ok; clear ok
        go_wp2_with fail
        refine (need_ok _ _).mono ?_
        rintro e w9 ⟨rfl, rfl⟩
        go_wp2_with fail
        go_roundw
        case rel => exact ⟨j + 1, HLT.out, by have := HLT.out; go_num, Lib.hid (fun i hi => by rcases Nat.lt_or_ge i j with h | h; exact HJ.out i h; obtain rfl : i = j := (by omega); first | (rw [HLO.out, HHI.out]; exact HOK.out) | (rw [HHI.out]; exact HOK.out)), gw_of_below (thru (below_alloc _ _) BW.out)⟩
        case measure => have := HLT.out; first | (simp only [intOf]; omega) | (simp [intOf]; omega) | (simp [intOf, Act.put]; done)
      · have dk : decide (lo ≤ hi) = false := by simp; omega
        have HOK := Lib.hid ok; clear ok
        go_wp2_with fail
        refine (need_not _ _).mono ?_
        rintro e w9 ⟨rfl, rfl⟩
        go_wp2_with fail
        simp only [bodyPost]
        have ef : v1.fin = 4 := if_neg (by rw [allN_f HLT.out (by rw [HLO.out, HHI.out]; exact dk)]; simp)
        exact ⟨trivial, grownBy_trans GW5.out (grownBy_of_below (thru (below_alloc _ _) BW.out) _), .inr ⟨by omega, by rw [ef]⟩⟩
    · obtain rfl : j = 3 := by omega
      have HALL := Lib.hid HJ.out
      clear hlt hj
      obtain ⟨W6, hW6⟩ : ∃ V, gw W5 z = V := ⟨_, rfl⟩
      have b6 : Below W5.heap.size W5 W6 := by rw [← hW6]; exact below_gw _ z
      rw [hW6]
      clear hW6
      have HB6 := Lib.hid ((b6.block B (Array.getElem?_eq_some_iff.1 HB5.out).1).trans HB5.out)
      have G6 := Lib.hid (grownBy_trans GW5.out (grownBy_of_below b6 (some B)))
      have HA3 := Lib.hid (show allN 3 (fun j => decide (v1.lo j ≤ v1.hi j)) = true from allN_t.2 fun i hi => decide_eq_true (HALL.out i hi))
      clear b6 HALL
      have l6 := (Array.getElem?_eq_some_iff.1 HB6.out).1
      have c0 : W6.cell? ⟨B, 0, none⟩ = some (.int .i64 v1.dl) := cell_of_block HB6.out 0 (by simp [Vt.cells])
      have c1 : W6.cell? ⟨B, 1, none⟩ = some (.int .i64 v1.dh) := cell_of_block HB6.out 1 (by simp [Vt.cells])
      have c2 : W6.cell? ⟨B, 2, none⟩ = some (.int .i64 v1.wl) := cell_of_block HB6.out 2 (by simp [Vt.cells])
      have c3 : W6.cell? ⟨B, 3, none⟩ = some (.int .i64 v1.wh) := cell_of_block HB6.out 3 (by simp [Vt.cells])
      have c4 : W6.cell? ⟨B, 4, none⟩ = some (.int .i64 v1.pl) := cell_of_block HB6.out 4 (by simp [Vt.cells])
      have c5 : W6.cell? ⟨B, 5, none⟩ = some (.int .i64 v1.ph) := cell_of_block HB6.out 5 (by simp [Vt.cells])
      have c6 : W6.cell? ⟨B, 6, none⟩ = some (.int .i64 v1.tl) := cell_of_block HB6.out 6 (by simp [Vt.cells])
      have c7 : W6.cell? ⟨B, 7, none⟩ = some (.int .i64 v1.th) := cell_of_block HB6.out 7 (by simp [Vt.cells])
      have c8 : W6.cell? ⟨B, 8, none⟩ = some (.int .i64 v1.gl) := cell_of_block HB6.out 8 (by simp [Vt.cells])
      have c9 : W6.cell? ⟨B, 9, none⟩ = some (.int .i64 v1.gh) := cell_of_block HB6.out 9 (by simp [Vt.cells])
      have c10 : W6.cell? ⟨B, 10, none⟩ = some (.int .i64 v1.rl) := cell_of_block HB6.out 10 (by simp [Vt.cells])
      have c11 : W6.cell? ⟨B, 11, none⟩ = some (.int .i64 v1.rh) := cell_of_block HB6.out 11 (by simp [Vt.cells])
      have c12 : W6.cell? ⟨B, 12, none⟩ = some (.int .i64 v1.sl) := cell_of_block HB6.out 12 (by simp [Vt.cells])
      have c13 : W6.cell? ⟨B, 13, none⟩ = some (.int .i64 v1.sh) := cell_of_block HB6.out 13 (by simp [Vt.cells])
      go_upto_region 8 with (fail)
      refine wp_region_steps (fun w9 => ∃ x, w9 = gw W6 x) [([0, 1, 2, 3, 4, 5, 6, 7, 8, 9, 10, 11, 12, 13, 14, 15, 16, 17, 18, 19, 20, 21, 22, 23, 24, 25, 26, 27, 30], 28), ([], 29)] [] [] (by kernel_rfl) (by kernel_rfl) ?_
      intro W8 h8
      obtain ⟨x8, hx8⟩ := h8
      have b8 : Below W6.heap.size W6 W8 := by rw [hx8]; exact below_gw _ _
      refine ⟨⟨x8, hx8⟩, ?_⟩
      clear hx8
      refine wpSeg_cons ?_
      simp only [pickL, List.getElem?_cons_zero, List.getElem?_cons_succ]
      repeat (go_big_quiet_step (fail))
      refine wpQuiet_nil ?_
      go_wp2_with fail
      refine contQ_now ⟨gw_of_below (thru (below_alloc _ _) b8), ?_⟩
      refine wpSeg_cons ?_
      simp only [pickL, List.getElem?_cons_zero, List.getElem?_cons_succ]
      repeat (go_big_quiet_step (fail))
      refine wpQuiet_nil ?_
      go_wp2_with fail
      refine contQ_now ⟨gw_of_below (thru (below_alloc _ _) b8), ?_⟩
      refine wpSeg_nil ?_
      simp only [pickL, List.getElem?_cons_zero, List.getElem?_cons_succ]
      repeat (go_big_quiet_step (fail))
      refine wpQuiet_nil ?_
      refine contN_nil ?_
      clear c0 c1 c2 c3 c4 c5 c6 c7 c8 c9 c10 c11 c12 c13
      have HB8 := Lib.hid ((b8.block B l6).trans HB6.out)
      have G8 := Lib.hid (grownBy_trans G6.out (grownBy_of_below b8 (some B)))
      clear b8
      obtain ⟨W7, hW7⟩ : ∃ V, W8.alloc (.cells #[.int .i64 v1.dl, .int .i64 v1.dh, .int .i64 v1.wl, .int .i64 v1.wh, .int .i64 v1.pl, .int .i64 v1.ph, .int .i64 v1.tl, .int .i64 v1.th, .int .i64 v1.gl, .int .i64 v1.gh, .int .i64 v1.rl, .int .i64 v1.rh, .int .i64 v1.sl, .int .i64 v1.sh] 82) = V := ⟨_, rfl⟩
      have bW7 : Below W8.heap.size W8 W7 := by rw [← hW7]; exact below_alloc _ _
      have qW7 : W7.heap[W8.heap.size]? = some (.cells #[.int .i64 v1.dl, .int .i64 v1.dh, .int .i64 v1.wl, .int .i64 v1.wh, .int .i64 v1.pl, .int .i64 v1.ph, .int .i64 v1.tl, .int .i64 v1.th, .int .i64 v1.gl, .int .i64 v1.gh, .int .i64 v1.rl, .int .i64 v1.rh, .int .i64 v1.sl, .int .i64 v1.sh] 82 (0, 0)) := by rw [← hW7]; exact alloc_at rfl
      have SP7 := Lib.hid (show ∀ j, j < 7 → W7.cell? ⟨W8.heap.size, j * 2, none⟩ = some (.int .i64 (v1.lo j)) ∧ W7.cell? ⟨W8.heap.size, j * 2 + 1, none⟩ = some (.int .i64 (v1.hi j)) from fun j hj => by rcases (show j = 0 ∨ j = 1 ∨ j = 2 ∨ j = 3 ∨ j = 4 ∨ j = 5 ∨ j = 6 by omega) with rfl | rfl | rfl | rfl | rfl | rfl | rfl <;> exact ⟨cell_of_block qW7 _ (by simp), cell_of_block qW7 _ (by simp)⟩)
      have lW7 := (Array.getElem?_eq_some_iff.1 qW7).1
      rw [hW7]
      have HB7 := Lib.hid ((bW7.block B (Array.getElem?_eq_some_iff.1 HB8.out).1).trans HB8.out)
      have GW7 := Lib.hid (grownBy_trans G8.out (grownBy_of_below bW7 (some B)))
      clear hW7 bW7 qW7
      go_upto_region 9 with (fail)
      go_loopw [78] (fun s wx => ∃ j : Nat, j ≤ 7 ∧ s = .int .i64 (j : Int) ∧ Hid (∀ i, i < j → v1.hi i ≤ 1099511627776) ∧ ∃ x, wx = gw W7 x) (fun s _ => 7 - (intOf s).toNat)
      case atStart => exact ⟨0, Nat.zero_le _, rfl, Lib.hid (fun i hi => absurd hi (Nat.not_lt_zero i)), ⟨#[], W7.drawn⟩, by simp [gw]⟩
      case round =>
        obtain ⟨j, hj, rfl, HJ, z, rfl⟩ := hrel
        by_cases hlt : j < 7
        · have hji : (j : Int) < 7 := by omega
          obtain ⟨y0, y1⟩ := SP7.out j hlt
          obtain ⟨lo, hlo⟩ : ∃ x, v1.lo j = x := ⟨_, rfl⟩
          obtain ⟨hi, hhi⟩ : ∃ x, v1.hi j = x := ⟨_, rfl⟩
          rw [hlo] at y0
          rw [hhi] at y1
          have HLO := Lib.hid hlo; have HHI := Lib.hid hhi; have HLT := Lib.hid hlt
          clear hlo hhi hlt
          obtain ⟨Wr, hWr⟩ : ∃ V, gw W7 z = V := ⟨_, rfl⟩
          have bWr : Below W7.heap.size W7 Wr := by rw [← hWr]; exact below_gw _ z
          rw [hWr]
          clear hWr
          replace y0 := (bWr.cell (p := ⟨W8.heap.size, j * 2, none⟩) lW7).trans y0
          replace y1 := (bWr.cell (p := ⟨W8.heap.size, j * 2 + 1, none⟩) lW7).trans y1
          have lr : W8.heap.size < Wr.heap.size := Nat.lt_of_lt_of_le lW7 bWr.size
          have BW := Lib.hid bWr
          clear bWr
          by_cases ok : hi ≤ 1099511627776
          · have dk : decide (hi ≤ 1099511627776) = true := by simp; omega
            have HOK := Lib.hid ok; clear ok
            go_wp2_with fail
            refine (need_ok _ _).mono ?_
            rintro e w9 ⟨rfl, rfl⟩
            go_wp2_with fail
            go_roundw
            case rel => exact ⟨_, _, _, _, _, _, _, _, _, _, _, ⟨j + 1, HLT.out, by have := HLT.out; go_num, Lib.hid (fun i hi => by rcases Nat.lt_or_ge i j with h | h; exact HJ.out i h; obtain rfl : i = j := (by omega); first | (rw [HLO.out, HHI.out]; exact HOK.out) | (rw [HHI.out]; exact HOK.out)), gw_of_below (thru (below_alloc _ _) BW.out)⟩, rfl⟩
            case measure => have := HLT.out; first | (simp only [intOf]; omega) | (simp [intOf]; omega) | (simp [intOf, Act.put]; done)
          · have dk : decide (hi ≤ 1099511627776) = false := by simp; omega
            have HOK := Lib.hid ok; clear ok
            go_wp2_with fail
            refine (need_not _ _).mono ?_
            rintro e w9 ⟨rfl, rfl⟩
            go_wp2_with fail
            simp only [bodyPost]
            have ef : v1.fin = 12 := by unfold Vt.fin; rw [HA3.out, if_pos rfl, allN_f HLT.out (by rw [HHI.out]; exact dk)]; rfl
            exact ⟨trivial, grownBy_trans GW7.out (grownBy_of_below (thru (below_alloc _ _) BW.out) _), .inr ⟨by omega, by rw [ef]⟩⟩
        · obtain rfl : j = 7 := by omega
          have HALL := Lib.hid HJ.out
          clear hlt hj
          go_wp2_with fail
          have ef : v1.fin = 0 := by unfold Vt.fin; rw [HA3.out, if_pos rfl, allN_t.2 (fun i hi => decide_eq_true (HALL.out i hi)), if_pos rfl]
          refine bodyPost_end (results_none rfl _ _ _) rfl ?_
          exact ⟨grownBy_trans GW7.out (grownBy_of_below (below_gw _ z) _), .inl ⟨ef, rfl, gw_keep HB7.out z⟩⟩
end Go.Proofs.Ytfefmgadfklgmaa.L2
