/- Vats and yeasts. Contracts of isVat, isYeast. No conditions beyond each theorem's own. -/
import Derived.Test.YtfefmgadfklgmaaBf
set_option linter.unusedVariables false
set_option linter.unusedSimpArgs false
set_option linter.unusedSectionVars false
set_option linter.constructorNameAsVariable false
namespace Go.Proofs.Ytfefmgadfklgmaa
open Go.RowKit

attribute [local go_sem] gw_cell gw_frozen gw_size

structure Vat where
  sl : Int
  sh : Int
  el : Int
  eh : Int
  pl : Int
  ph : Int
  gl : Int
  gh : Int
  ol : Int
  oh : Int
  tl : Int
  th : Int
  c : Int
def Vat.val (v : Vat) : Value := .agg #[.int .i64 v.sl, .int .i64 v.sh, .int .i64 v.el, .int .i64 v.eh, .int .i64 v.pl, .int .i64 v.ph, .int .i64 v.gl, .int .i64 v.gh, .int .i64 v.ol, .int .i64 v.oh, .int .i64 v.tl, .int .i64 v.th, .int .i64 v.c]
def Vat.cells (v : Vat) : Array Value := #[.int .i64 v.sl, .int .i64 v.sh, .int .i64 v.el, .int .i64 v.eh, .int .i64 v.pl, .int .i64 v.ph, .int .i64 v.gl, .int .i64 v.gh, .int .i64 v.ol, .int .i64 v.oh, .int .i64 v.tl, .int .i64 v.th, .int .i64 v.c]
/-- the amounts of a vat -/
def Vat.lo (v : Vat) (i : Nat) : Int := match i with | 0 => v.sl | 1 => v.el | 2 => v.pl | 3 => v.gl | _ => v.ol
def Vat.hi (v : Vat) (i : Nat) : Int := match i with | 0 => v.sh | 1 => v.eh | 2 => v.ph | 3 => v.gh | _ => v.oh
def vatB (v : Vat) : Bool := allB 5 (fun i => spanB (v.lo i) (v.hi i) 0 1073741824) && (spanB v.tl v.th (-50000) 150000 && inB v.c 1 1099511627776)
theorem vatB_t {v : Vat} (h : vatB v = true) : (0 ≤ v.sl ∧ v.sl ≤ v.sh ∧ v.sh ≤ 1073741824) ∧ (0 ≤ v.el ∧ v.el ≤ v.eh ∧ v.eh ≤ 1073741824) ∧ (0 ≤ v.pl ∧ v.pl ≤ v.ph ∧ v.ph ≤ 1073741824) ∧ (0 ≤ v.gl ∧ v.gl ≤ v.gh ∧ v.gh ≤ 1073741824) ∧ (0 ≤ v.ol ∧ v.ol ≤ v.oh ∧ v.oh ≤ 1073741824) ∧ (-50000 ≤ v.tl ∧ v.tl ≤ v.th ∧ v.th ≤ 150000) ∧ (1 ≤ v.c ∧ v.c ≤ 1099511627776) := by
  simp only [vatB, Bool.and_eq_true] at h
  have a := allB_t.1 h.1
  exact ⟨spanB_t.1 (a 0 (by omega)), spanB_t.1 (a 1 (by omega)), spanB_t.1 (a 2 (by omega)), spanB_t.1 (a 3 (by omega)), spanB_t.1 (a 4 (by omega)), spanB_t.1 h.2.1, inB_t.1 h.2.2⟩
structure Yst where
  aT : Option Addr
  nT : Nat
  cT : Nat
  aR : Option Addr
  nR : Nat
  cR : Nat
  T : Nat → Int
  A : Nat → Int
  B : Nat → Int
  sl : Int
  sh : Int
  gl : Int
  gh : Int
  hl : Int
  hh : Int
def Yst.val (y : Yst) : Value := .agg #[.slice y.aT y.nT y.cT, .slice y.aR y.nR y.cR, .int .i64 y.sl, .int .i64 y.sh, .int .i64 y.gl, .int .i64 y.gh, .int .i64 y.hl, .int .i64 y.hh]
structure Yst.In (y : Yst) (w : World) : Prop where
  t : IntsAt w y.aT y.nT y.T
  r : SpansAt w y.aR y.nR y.A y.B
theorem Yst.In.below {y : Yst} {w w' : World} (h : y.In w) (hb : Below w.heap.size w w') : y.In w' := ⟨h.t.below hb, h.r.below hb⟩
structure Yst.Fits (y : Yst) : Prop where
  t : y.nT ≤ 9223372036854775807
  r : y.nR ≤ 9223372036854775807
  c : y.nR ≤ y.cR
  m : y.cR ≤ 9223372036854775807
/-- a yeast's box -/
structure Yst.At (y : Yst) (w : World) (b : Nat) : Prop where
  blk : w.heap[b]? = some (.cells #[.slice y.aT y.nT y.cT, .slice y.aR y.nR y.cR, .int .i64 y.sl, .int .i64 y.sh, .int .i64 y.gl, .int .i64 y.gh, .int .i64 y.hl, .int .i64 y.hh] 32 (0, 0))
  i : y.In w
theorem Yst.At.below {y : Yst} {w w' : World} {b : Nat} (h : y.At w b) (hb : Below w.heap.size w w') : y.At w' b := ⟨(hb.block b (Array.getElem?_eq_some_iff.1 h.blk).1).trans h.blk, h.i.below hb⟩
/-- a temperature of a list is as it should be -/
def tempB (T : Nat → Int) (i : Nat) : Bool := inB (T i) (-50000) 150000 && (decide (i = 0) || decide (T (i - 1) < T i))
def ystH (y : Yst) : Bool := decide (y.nT ≤ 16) && decide (y.nR = y.nT + 1)
def ystG (y : Yst) : Bool := spanB y.sl y.sh 0 1000 && (spanB y.gl y.gh 0 1000 && spanB y.hl y.hh 0 10000)
def ystB (y : Yst) : Bool := ystH y && (allB y.nT (tempB y.T) && (allB y.nR (inSp 1000 y.A y.B) && ystG y))
theorem ystB_t {y : Yst} (h : ystB y = true) : (y.nT ≤ 16 ∧ y.nR = y.nT + 1) ∧ (∀ i, i < y.nT → -50000 ≤ y.T i ∧ y.T i ≤ 150000) ∧ (∀ i, i + 1 < y.nT → y.T i < y.T (i + 1)) ∧ (∀ i, i < y.nR → 0 ≤ y.A i ∧ y.A i ≤ y.B i ∧ y.B i ≤ 1000) ∧ (0 ≤ y.sl ∧ y.sl ≤ y.sh ∧ y.sh ≤ 1000) ∧ (0 ≤ y.gl ∧ y.gl ≤ y.gh ∧ y.gh ≤ 1000) ∧ (0 ≤ y.hl ∧ y.hl ≤ y.hh ∧ y.hh ≤ 10000) := by
  simp only [ystB, ystH, ystG, Bool.and_eq_true, decide_eq_true_eq] at h
  obtain ⟨h0, h1, h2, h3, h4, h5⟩ := h
  refine ⟨h0, fun i hi => ?_, fun i hi => ?_, fun i hi => spanB_t.1 (allB_t.1 h2 i hi), spanB_t.1 h3, spanB_t.1 h4, spanB_t.1 h5⟩
  · have := allB_t.1 h1 i hi
    simp only [tempB, Bool.and_eq_true] at this
    exact inB_t.1 this.1
  · have := allB_t.1 h1 (i + 1) hi
    simp only [tempB, Bool.and_eq_true, Bool.or_eq_true, decide_eq_true_eq] at this
    rcases this.2 with h | h
    · omega
    · simpa using h

theorem ix5_0 (x0 x1 x2 x3 x4 x5 x6 x7 x8 x9 : Int) (w : World) : Sem.run Try.prog (Instr.index 115 (.agg #[.int .i64 x0, .int .i64 x1, .int .i64 x2, .int .i64 x3, .int .i64 x4, .int .i64 x5, .int .i64 x6, .int .i64 x7, .int .i64 x8, .int .i64 x9]) (.int .i64 0)) w = .ok (.agg #[.int .i64 x0, .int .i64 x1]) w := by kernel_rfl
theorem ix5_1 (x0 x1 x2 x3 x4 x5 x6 x7 x8 x9 : Int) (w : World) : Sem.run Try.prog (Instr.index 115 (.agg #[.int .i64 x0, .int .i64 x1, .int .i64 x2, .int .i64 x3, .int .i64 x4, .int .i64 x5, .int .i64 x6, .int .i64 x7, .int .i64 x8, .int .i64 x9]) (.int .i64 1)) w = .ok (.agg #[.int .i64 x2, .int .i64 x3]) w := by kernel_rfl
theorem ix5_2 (x0 x1 x2 x3 x4 x5 x6 x7 x8 x9 : Int) (w : World) : Sem.run Try.prog (Instr.index 115 (.agg #[.int .i64 x0, .int .i64 x1, .int .i64 x2, .int .i64 x3, .int .i64 x4, .int .i64 x5, .int .i64 x6, .int .i64 x7, .int .i64 x8, .int .i64 x9]) (.int .i64 2)) w = .ok (.agg #[.int .i64 x4, .int .i64 x5]) w := by kernel_rfl
theorem ix5_3 (x0 x1 x2 x3 x4 x5 x6 x7 x8 x9 : Int) (w : World) : Sem.run Try.prog (Instr.index 115 (.agg #[.int .i64 x0, .int .i64 x1, .int .i64 x2, .int .i64 x3, .int .i64 x4, .int .i64 x5, .int .i64 x6, .int .i64 x7, .int .i64 x8, .int .i64 x9]) (.int .i64 3)) w = .ok (.agg #[.int .i64 x6, .int .i64 x7]) w := by kernel_rfl
theorem ix5_4 (x0 x1 x2 x3 x4 x5 x6 x7 x8 x9 : Int) (w : World) : Sem.run Try.prog (Instr.index 115 (.agg #[.int .i64 x0, .int .i64 x1, .int .i64 x2, .int .i64 x3, .int .i64 x4, .int .i64 x5, .int .i64 x6, .int .i64 x7, .int .i64 x8, .int .i64 x9]) (.int .i64 4)) w = .ok (.agg #[.int .i64 x8, .int .i64 x9]) w := by kernel_rfl
attribute [local go_sem] ix5_0 ix5_1 ix5_2 ix5_3 ix5_4

set_option maxRecDepth 100000 in
set_option maxHeartbeats 4000000 in
theorem isVat_any (v : Vat) (w : World) : Calls Try.prog 30 #[v.val] w fun e w' => e = .returned (.bool (vatB v)) ∧ Below w.heap.size w w' := by
  unfold Vat.val
  obtain ⟨W1, hW1⟩ : ∃ W1, w.alloc (.cells #[.int .i64 v.sl, .int .i64 v.sh, .int .i64 v.el, .int .i64 v.eh, .int .i64 v.pl, .int .i64 v.ph, .int .i64 v.gl, .int .i64 v.gh, .int .i64 v.ol, .int .i64 v.oh, .int .i64 v.tl, .int .i64 v.th, .int .i64 v.c] 53) = W1 := ⟨_, rfl⟩
  have hBc : Below w.heap.size w W1 := by rw [← hW1]; exact below_alloc _ _
  have zc0 : W1.heap[w.heap.size]? = some (.cells #[.int .i64 v.sl, .int .i64 v.sh, .int .i64 v.el, .int .i64 v.eh, .int .i64 v.pl, .int .i64 v.ph, .int .i64 v.gl, .int .i64 v.gh, .int .i64 v.ol, .int .i64 v.oh, .int .i64 v.tl, .int .i64 v.th, .int .i64 v.c] 53 (0, 0)) := by rw [← hW1]; exact alloc_at rfl
  have c00 : W1.cell? ⟨w.heap.size, 0, none⟩ = some (.int .i64 v.sl) := cell_of_block zc0 0 (by simp)
  have c01 : W1.cell? ⟨w.heap.size, 1, none⟩ = some (.int .i64 v.sh) := cell_of_block zc0 1 (by simp)
  have c02 : W1.cell? ⟨w.heap.size, 2, none⟩ = some (.int .i64 v.el) := cell_of_block zc0 2 (by simp)
  have c03 : W1.cell? ⟨w.heap.size, 3, none⟩ = some (.int .i64 v.eh) := cell_of_block zc0 3 (by simp)
  have c04 : W1.cell? ⟨w.heap.size, 4, none⟩ = some (.int .i64 v.pl) := cell_of_block zc0 4 (by simp)
  have c05 : W1.cell? ⟨w.heap.size, 5, none⟩ = some (.int .i64 v.ph) := cell_of_block zc0 5 (by simp)
  have c06 : W1.cell? ⟨w.heap.size, 6, none⟩ = some (.int .i64 v.gl) := cell_of_block zc0 6 (by simp)
  have c07 : W1.cell? ⟨w.heap.size, 7, none⟩ = some (.int .i64 v.gh) := cell_of_block zc0 7 (by simp)
  have c08 : W1.cell? ⟨w.heap.size, 8, none⟩ = some (.int .i64 v.ol) := cell_of_block zc0 8 (by simp)
  have c09 : W1.cell? ⟨w.heap.size, 9, none⟩ = some (.int .i64 v.oh) := cell_of_block zc0 9 (by simp)
  have c010 : W1.cell? ⟨w.heap.size, 10, none⟩ = some (.int .i64 v.tl) := cell_of_block zc0 10 (by simp)
  have c011 : W1.cell? ⟨w.heap.size, 11, none⟩ = some (.int .i64 v.th) := cell_of_block zc0 11 (by simp)
  have c012 : W1.cell? ⟨w.heap.size, 12, none⟩ = some (.int .i64 v.c) := cell_of_block zc0 12 (by simp)
  have lc0 := (Array.getElem?_eq_some_iff.1 zc0).1
  have Zc0 := Lib.hid zc0
  clear zc0
  have HBc := Lib.hid hBc; clear hBc
  have HWc := Lib.hid hW1; clear hW1
  go_enter Try.func30, Try.ntmps30
  go_wp2_with fail
  rw [HWc.out]
  go_wp2_with fail
  go_loopw [16] (fun t wr => ∃ j : Nat, j ≤ 5 ∧ t = .int .i64 j ∧ Hid (∀ i, i < j → spanB (v.lo i) (v.hi i) 0 1073741824 = true) ∧ ∃ x, wr = gw W1 x) (fun t _ => 5 - (intOf t).toNat)
  case atStart => exact ⟨0, Nat.zero_le _, rfl, Lib.hid (fun _ h => by omega), ⟨#[], W1.drawn⟩, by simp [gw]⟩
  case round =>
    obtain ⟨j, hj, rfl, OK, z0, rfl⟩ := hrel
    rcases (by omega : j = 0 ∨ j = 1 ∨ j = 2 ∨ j = 3 ∨ j = 4 ∨ j = 5) with rfl | rfl | rfl | rfl | rfl | rfl
    · cases t : spanB v.sl v.sh 0 1073741824 with
      | false =>
        have T := Lib.hid t; clear t
        go_wp2_with fail
        refine (sin_b v.sl v.sh 0 1073741824 _ T.out).mono ?_
        rintro e w1 ⟨rfl, hb⟩
        have HB := Lib.hid (thru hb ((below_gw W1 z0).alloc (by simp [gw_size]) (.cells #[.int .i64 v.sl, .int .i64 v.sh] 23))); clear hb
        go_wp2_with fail
        go_ret
        exact ⟨by rw [show vatB v = false by unfold vatB; rw [allB_f (j := 0) (by omega) T.out]; rfl]; rfl, thru HB.out HBc.out⟩
      | true =>
        have T := Lib.hid t; clear t
        go_wp2_with fail
        refine (sin_b v.sl v.sh 0 1073741824 _ T.out).mono ?_
        rintro e w1 ⟨rfl, hb⟩
        have HB := Lib.hid (thru hb ((below_gw W1 z0).alloc (by simp [gw_size]) (.cells #[.int .i64 v.sl, .int .i64 v.sh] 23))); clear hb
        obtain ⟨z1, rfl⟩ := gw_of_below HB.out
        go_wp2_with fail
        go_roundw
        case rel => exact ⟨1, by omega, by go_num, Lib.hid (all_succ (P := fun i => spanB (v.lo i) (v.hi i) 0 1073741824 = true) OK.out T.out), z1, rfl⟩
        case measure => simp [intOf]
    · cases t : spanB v.el v.eh 0 1073741824 with
      | false =>
        have T := Lib.hid t; clear t
        go_wp2_with fail
        refine (sin_b v.el v.eh 0 1073741824 _ T.out).mono ?_
        rintro e w1 ⟨rfl, hb⟩
        have HB := Lib.hid (thru hb ((below_gw W1 z0).alloc (by simp [gw_size]) (.cells #[.int .i64 v.el, .int .i64 v.eh] 23))); clear hb
        go_wp2_with fail
        go_ret
        exact ⟨by rw [show vatB v = false by unfold vatB; rw [allB_f (j := 1) (by omega) T.out]; rfl]; rfl, thru HB.out HBc.out⟩
      | true =>
        have T := Lib.hid t; clear t
        go_wp2_with fail
        refine (sin_b v.el v.eh 0 1073741824 _ T.out).mono ?_
        rintro e w1 ⟨rfl, hb⟩
        have HB := Lib.hid (thru hb ((below_gw W1 z0).alloc (by simp [gw_size]) (.cells #[.int .i64 v.el, .int .i64 v.eh] 23))); clear hb
        obtain ⟨z1, rfl⟩ := gw_of_below HB.out
        go_wp2_with fail
        go_roundw
        case rel => exact ⟨2, by omega, by go_num, Lib.hid (all_succ (P := fun i => spanB (v.lo i) (v.hi i) 0 1073741824 = true) OK.out T.out), z1, rfl⟩
        case measure => simp [intOf]
    · cases t : spanB v.pl v.ph 0 1073741824 with
      | false =>
        have T := Lib.hid t; clear t
        go_wp2_with fail
        refine (sin_b v.pl v.ph 0 1073741824 _ T.out).mono ?_
        rintro e w1 ⟨rfl, hb⟩
        have HB := Lib.hid (thru hb ((below_gw W1 z0).alloc (by simp [gw_size]) (.cells #[.int .i64 v.pl, .int .i64 v.ph] 23))); clear hb
        go_wp2_with fail
        go_ret
        exact ⟨by rw [show vatB v = false by unfold vatB; rw [allB_f (j := 2) (by omega) T.out]; rfl]; rfl, thru HB.out HBc.out⟩
      | true =>
        have T := Lib.hid t; clear t
        go_wp2_with fail
        refine (sin_b v.pl v.ph 0 1073741824 _ T.out).mono ?_
        rintro e w1 ⟨rfl, hb⟩
        have HB := Lib.hid (thru hb ((below_gw W1 z0).alloc (by simp [gw_size]) (.cells #[.int .i64 v.pl, .int .i64 v.ph] 23))); clear hb
        obtain ⟨z1, rfl⟩ := gw_of_below HB.out
        go_wp2_with fail
        go_roundw
        case rel => exact ⟨3, by omega, by go_num, Lib.hid (all_succ (P := fun i => spanB (v.lo i) (v.hi i) 0 1073741824 = true) OK.out T.out), z1, rfl⟩
        case measure => simp [intOf]
    · cases t : spanB v.gl v.gh 0 1073741824 with
      | false =>
        have T := Lib.hid t; clear t
        go_wp2_with fail
        refine (sin_b v.gl v.gh 0 1073741824 _ T.out).mono ?_
        rintro e w1 ⟨rfl, hb⟩
        have HB := Lib.hid (thru hb ((below_gw W1 z0).alloc (by simp [gw_size]) (.cells #[.int .i64 v.gl, .int .i64 v.gh] 23))); clear hb
        go_wp2_with fail
        go_ret
        exact ⟨by rw [show vatB v = false by unfold vatB; rw [allB_f (j := 3) (by omega) T.out]; rfl]; rfl, thru HB.out HBc.out⟩
      | true =>
        have T := Lib.hid t; clear t
        go_wp2_with fail
        refine (sin_b v.gl v.gh 0 1073741824 _ T.out).mono ?_
        rintro e w1 ⟨rfl, hb⟩
        have HB := Lib.hid (thru hb ((below_gw W1 z0).alloc (by simp [gw_size]) (.cells #[.int .i64 v.gl, .int .i64 v.gh] 23))); clear hb
        obtain ⟨z1, rfl⟩ := gw_of_below HB.out
        go_wp2_with fail
        go_roundw
        case rel => exact ⟨4, by omega, by go_num, Lib.hid (all_succ (P := fun i => spanB (v.lo i) (v.hi i) 0 1073741824 = true) OK.out T.out), z1, rfl⟩
        case measure => simp [intOf]
    · cases t : spanB v.ol v.oh 0 1073741824 with
      | false =>
        have T := Lib.hid t; clear t
        go_wp2_with fail
        refine (sin_b v.ol v.oh 0 1073741824 _ T.out).mono ?_
        rintro e w1 ⟨rfl, hb⟩
        have HB := Lib.hid (thru hb ((below_gw W1 z0).alloc (by simp [gw_size]) (.cells #[.int .i64 v.ol, .int .i64 v.oh] 23))); clear hb
        go_wp2_with fail
        go_ret
        exact ⟨by rw [show vatB v = false by unfold vatB; rw [allB_f (j := 4) (by omega) T.out]; rfl]; rfl, thru HB.out HBc.out⟩
      | true =>
        have T := Lib.hid t; clear t
        go_wp2_with fail
        refine (sin_b v.ol v.oh 0 1073741824 _ T.out).mono ?_
        rintro e w1 ⟨rfl, hb⟩
        have HB := Lib.hid (thru hb ((below_gw W1 z0).alloc (by simp [gw_size]) (.cells #[.int .i64 v.ol, .int .i64 v.oh] 23))); clear hb
        obtain ⟨z1, rfl⟩ := gw_of_below HB.out
        go_wp2_with fail
        go_roundw
        case rel => exact ⟨5, by omega, by go_num, Lib.hid (all_succ (P := fun i => spanB (v.lo i) (v.hi i) 0 1073741824 = true) OK.out T.out), z1, rfl⟩
        case measure => simp [intOf]
    · have HA := Lib.hid (allB_t.2 OK.out)
      cases t1 : spanB v.tl v.th (-50000) 150000 with
      | false =>
        have T1 := Lib.hid t1; clear t1
        go_wp2_with fail
        refine (Calls.gw_of (sin_b v.tl v.th (-50000) 150000 _ T1.out)).mono ?_
        rintro e w1 ⟨rfl, z6, rfl⟩
        go_wp2_with fail
        go_ret
        exact ⟨by rw [show vatB v = false by unfold vatB; rw [HA.out, T1.out]; rfl]; rfl, HBc.out.gw z6⟩
      | true =>
        cases t2 : inB v.c 1 1099511627776 with
        | false =>
          have T1 := Lib.hid t1; clear t1
          have T2 := Lib.hid t2; clear t2
          go_wp2_with fail
          refine (Calls.gw_of (sin_b v.tl v.th (-50000) 150000 _ T1.out)).mono ?_
          rintro e w1 ⟨rfl, z6, rfl⟩
          go_wp2_with fail
          refine (within_b v.c 1 1099511627776 _ T2.out).mono ?_
          rintro e w1 ⟨rfl, rfl⟩
          go_wp2_with fail
          go_ret
          exact ⟨by rw [show vatB v = false by unfold vatB; rw [HA.out, T1.out, T2.out]; rfl]; rfl, HBc.out.gw z6⟩
        | true =>
          have T1 := Lib.hid t1; clear t1
          have T2 := Lib.hid t2; clear t2
          go_wp2_with fail
          refine (Calls.gw_of (sin_b v.tl v.th (-50000) 150000 _ T1.out)).mono ?_
          rintro e w1 ⟨rfl, z6, rfl⟩
          go_wp2_with fail
          refine (within_b v.c 1 1099511627776 _ T2.out).mono ?_
          rintro e w1 ⟨rfl, rfl⟩
          go_wp2_with fail
          go_ret
          exact ⟨by rw [show vatB v = true by unfold vatB; rw [HA.out, T1.out, T2.out]; rfl]; rfl, HBc.out.gw z6⟩
theorem isVat_b {b : Bool} (v : Vat) (w : World) (h : vatB v = b) : Calls Try.prog 30 #[v.val] w fun e w' => e = .returned (.bool b) ∧ Below w.heap.size w w' := h ▸ isVat_any v w
end Go.Proofs.Ytfefmgadfklgmaa
