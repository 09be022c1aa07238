/- Contracts of the small functions. Climates and contents in memory. Contract of isClimate. Contract of isClimate. Contracts of isContent, areStays, left. No conditions beyond each theorem's own. -/
import Derived.Test.YtjgnafhbeekebaaGreatAa
import Derived.Test.YtjgnafhbeekebaaGreatAb
import Derived.Test.YtjgnafhbeekebaaGreatAc
import Derived.Test.YtjgnafhbeekebaaGreatAz
import Derived.Test.YtjgnafhbeekebaaGreatAf
import Derived.Test.YtjgnafhbeekebaaGreatAy
import Derived.Test.YtjgnafhbeekebaaGreatAw
import Derived.Test.YtjgnafhbeekebaaGreatAl
import Derived.Test.YtjgnafhbeekebaaGreatAm
import Derived.Test.YtjgnafhbeekebaaGreatAx
import Derived.Test.YtjgnafhbeekebaaGreatAr
import Derived.Test.YtjgnafhbeekebaaGreatAs
import Derived.Test.YtjgnafhbeekebaaGreatProg
import Derived.Lib.Hide
import Derived.Deep.DeepCutAuto
set_option linter.unusedVariables false
set_option linter.unusedSimpArgs false
set_option linter.unusedSectionVars false
set_option linter.constructorNameAsVariable false
namespace Go.Proofs.YtjgnafhbeekebaaGreat.L7
open Go.RowKit

set_option maxHeartbeats 400000 in
theorem within_any (n lo hi : Int) (w : World) :
    Calls Tryz.prog 65 #[.int .i64 n, .int .i64 lo, .int .i64 hi] w fun e w' => e = .returned (.bool (inB n lo hi)) ∧ w = w' := by
  by_cases h1 : lo ≤ n
  · by_cases h2 : n ≤ hi
    · have hb : inB n lo hi = true := by simp [inB, h1, h2]
      rw [hb]; clear hb
      go_enter Tryz.func65, Tryz.ntmps65
      go_wp2
      go_ret
      exact ⟨rfl, rfl⟩
    · have hb : inB n lo hi = false := by simp [inB, h2]
      rw [hb]; clear hb
      go_enter Tryz.func65, Tryz.ntmps65
      go_wp2
      go_ret
      exact ⟨rfl, rfl⟩
  · have hb : inB n lo hi = false := by simp [inB, h1]
    rw [hb]; clear hb
    go_enter Tryz.func65, Tryz.ntmps65
    go_wp2
    go_ret
    exact ⟨rfl, rfl⟩

set_option maxHeartbeats 400000 in
theorem isSpan_any (lo hi low high : Int) (w : World) :
    Calls Tryz.prog 66 #[.agg #[.int .i64 lo, .int .i64 hi], .int .i64 low, .int .i64 high] w fun e w' => e = .returned (.bool (spanB lo hi low high)) ∧ Below w.heap.size w w' := by
  by_cases h1 : low ≤ lo
  · by_cases h2 : lo ≤ hi
    · by_cases h3 : hi ≤ high
      · have hb : spanB lo hi low high = true := by simp [spanB, h1, h2, h3]
        rw [hb]; clear hb
        go_enter Tryz.func66, Tryz.ntmps66
        go_wp2
        go_ret
        exact ⟨rfl, (Below.refl _ _).alloc (Nat.le_refl _) _⟩
      · have hb : spanB lo hi low high = false := by simp [spanB, h3]
        rw [hb]; clear hb
        go_enter Tryz.func66, Tryz.ntmps66
        go_wp2
        go_ret
        exact ⟨rfl, (Below.refl _ _).alloc (Nat.le_refl _) _⟩
    · have hb : spanB lo hi low high = false := by simp [spanB, h2]
      rw [hb]; clear hb
      go_enter Tryz.func66, Tryz.ntmps66
      go_wp2
      go_ret
      exact ⟨rfl, (Below.refl _ _).alloc (Nat.le_refl _) _⟩
  · have hb : spanB lo hi low high = false := by simp [spanB, h1]
    rw [hb]; clear hb
    go_enter Tryz.func66, Tryz.ntmps66
    go_wp2
    go_ret
    exact ⟨rfl, (Below.refl _ _).alloc (Nat.le_refl _) _⟩

set_option maxHeartbeats 400000 in
theorem up_any (a b : Int) (w : World) (ha : 0 ≤ a) (ha2 : a ≤ 4000000000000000000) (hb : 1 ≤ b) (hb2 : b ≤ 4000000000000000000) :
    Calls Tryz.prog 67 #[.int .i64 a, .int .i64 b] w fun e w' => e = .returned (.int .i64 (upI a b)) ∧ w = w' := by
  unfold upI
  have h0 : ¬ b = 0 := by omega
  go_enter Tryz.func67, Tryz.ntmps67
  go_wp2
  go_ret
  exact ⟨rfl, rfl⟩

theorem within_b {b : Bool} (n lo hi : Int) (w : World) (h : inB n lo hi = b) :
    Calls Tryz.prog 65 #[.int .i64 n, .int .i64 lo, .int .i64 hi] w fun e w' => e = .returned (.bool b) ∧ w = w' := h ▸ within_any n lo hi w
theorem isSpan_b {b : Bool} (lo hi low high : Int) (w : World) (h : spanB lo hi low high = b) :
    Calls Tryz.prog 66 #[.agg #[.int .i64 lo, .int .i64 hi], .int .i64 low, .int .i64 high] w fun e w' => e = .returned (.bool b) ∧ Below w.heap.size w w' := h ▸ isSpan_any lo hi low high w

set_option maxHeartbeats 400000 in
theorem rin_any (n lo hi : Int) (w : World) :
    Calls Tryz.prog 22 #[.int .i64 n, .int .i64 lo, .int .i64 hi] w fun e w' => e = .returned (.bool (inB n lo hi)) ∧ w = w' := by
  by_cases h1 : lo ≤ n
  · by_cases h2 : n ≤ hi
    · have hb : inB n lo hi = true := by simp [inB, h1, h2]
      rw [hb]; clear hb
      go_enter Tryz.func22, Tryz.ntmps22
      go_wp2
      go_ret
      exact ⟨rfl, rfl⟩
    · have hb : inB n lo hi = false := by simp [inB, h2]
      rw [hb]; clear hb
      go_enter Tryz.func22, Tryz.ntmps22
      go_wp2
      go_ret
      exact ⟨rfl, rfl⟩
  · have hb : inB n lo hi = false := by simp [inB, h1]
    rw [hb]; clear hb
    go_enter Tryz.func22, Tryz.ntmps22
    go_wp2
    go_ret
    exact ⟨rfl, rfl⟩

set_option maxHeartbeats 400000 in
theorem rwithin_any (lo hi low high : Int) (w : World) :
    Calls Tryz.prog 24 #[.agg #[.int .i64 lo, .int .i64 hi], .int .i64 low, .int .i64 high] w fun e w' => e = .returned (.bool (spanB lo hi low high)) ∧ Below w.heap.size w w' := by
  by_cases h1 : low ≤ lo
  · by_cases h2 : lo ≤ hi
    · by_cases h3 : hi ≤ high
      · have hb : spanB lo hi low high = true := by simp [spanB, h1, h2, h3]
        rw [hb]; clear hb
        go_enter Tryz.func24, Tryz.ntmps24
        go_wp2
        go_ret
        exact ⟨rfl, (Below.refl _ _).alloc (Nat.le_refl _) _⟩
      · have hb : spanB lo hi low high = false := by simp [spanB, h3]
        rw [hb]; clear hb
        go_enter Tryz.func24, Tryz.ntmps24
        go_wp2
        go_ret
        exact ⟨rfl, (Below.refl _ _).alloc (Nat.le_refl _) _⟩
    · have hb : spanB lo hi low high = false := by simp [spanB, h2]
      rw [hb]; clear hb
      go_enter Tryz.func24, Tryz.ntmps24
      go_wp2
      go_ret
      exact ⟨rfl, (Below.refl _ _).alloc (Nat.le_refl _) _⟩
  · have hb : spanB lo hi low high = false := by simp [spanB, h1]
    rw [hb]; clear hb
    go_enter Tryz.func24, Tryz.ntmps24
    go_wp2
    go_ret
    exact ⟨rfl, (Below.refl _ _).alloc (Nat.le_refl _) _⟩

theorem rin_b {b : Bool} (n lo hi : Int) (w : World) (h : inB n lo hi = b) :
    Calls Tryz.prog 22 #[.int .i64 n, .int .i64 lo, .int .i64 hi] w fun e w' => e = .returned (.bool b) ∧ w = w' := h ▸ rin_any n lo hi w
theorem rwithin_b {b : Bool} (lo hi low high : Int) (w : World) (h : spanB lo hi low high = b) :
    Calls Tryz.prog 24 #[.agg #[.int .i64 lo, .int .i64 hi], .int .i64 low, .int .i64 high] w fun e w' => e = .returned (.bool b) ∧ Below w.heap.size w w' := h ▸ rwithin_any lo hi low high w

end Go.Proofs.YtjgnafhbeekebaaGreat.L7

namespace Go.Proofs.YtjgnafhbeekebaaGreat.L7
open Go.RowKit

/-- a row of spans -/
structure RowD where
  a : Option Addr
  n : Nat
  c : Nat
  A : Nat → Int
  B : Nat → Int
def RowsAt (w : World) (a : Option Addr) (n : Nat) (R : Nat → RowD) : Prop :=
  n = 0 ∨ ∃ b off, a = some ⟨b, off, none⟩ ∧ b < w.heap.size ∧ ∀ i, i < n → w.cell? ⟨b, off + i, none⟩ = some (.slice (R i).a (R i).n (R i).c) ∧ SpansAt w (R i).a (R i).n (R i).A (R i).B
theorem RowsAt.below {w w' : World} {a : Option Addr} {n : Nat} {R : Nat → RowD} (h : RowsAt w a n R) (hb : Below w.heap.size w w') : RowsAt w' a n R := by
  rcases h with h | ⟨b, off, rfl, hlt, hc⟩
  · exact .inl h
  · exact .inr ⟨b, off, rfl, Nat.lt_of_lt_of_le hlt hb.size, fun i hi => ⟨(hb.cell (p := ⟨b, off + i, none⟩) hlt).trans (hc i hi).1, (hc i hi).2.below hb⟩⟩

/-- a climate -/
structure Clim where
  days : Int
  aA : Option Addr
  nA : Nat
  cA : Nat
  aW : Option Addr
  nW : Nat
  cW : Nat
  RA : Nat → RowD
  RW : Nat → RowD
/-- its lists are there; no list is longer than a list can be -/
structure Clim.In (C : Clim) (w : World) : Prop where
  ra : RowsAt w C.aA C.nA C.RA
  rw : RowsAt w C.aW C.nW C.RW
theorem Clim.In.below {C : Clim} {w w' : World} (h : C.In w) (hb : Below w.heap.size w w') : C.In w' := ⟨h.ra.below hb, h.rw.below hb⟩
structure Clim.Fits (C : Clim) : Prop where
  na : C.nA ≤ 9223372036854775807
  nw : C.nW ≤ 9223372036854775807
  la : ∀ i, i < C.nA → (C.RA i).n ≤ 9223372036854775807
  lw : ∀ i, i < C.nW → (C.RW i).n ≤ 9223372036854775807
/-- a climate's box -/
structure Clim.At (C : Clim) (w : World) (bc : Nat) : Prop where
  blk : w.heap[bc]? = some (.cells #[.int .i64 C.days, .slice C.aA C.nA C.cA, .slice C.aW C.nW C.cW] 30 (0, 0))
  i : C.In w
section
variable {C : Clim} {w w' : World} {bc : Nat}
theorem Clim.At.lt (h : C.At w bc) : bc < w.heap.size := (Array.getElem?_eq_some_iff.1 h.blk).1
theorem Clim.At.c0 (h : C.At w bc) : w.cell? ⟨bc, 0, none⟩ = some (.int .i64 C.days) := cell_of_block h.blk 0 (by simp)
theorem Clim.At.c1 (h : C.At w bc) : w.cell? ⟨bc, 1, none⟩ = some (.slice C.aA C.nA C.cA) := cell_of_block h.blk 1 (by simp)
theorem Clim.At.c2 (h : C.At w bc) : w.cell? ⟨bc, 2, none⟩ = some (.slice C.aW C.nW C.cW) := cell_of_block h.blk 2 (by simp)
theorem Clim.At.below (h : C.At w bc) (hb : Below w.heap.size w w') : C.At w' bc := ⟨(hb.block bc h.lt).trans h.blk, h.i.below hb⟩
end

def allB (n : Nat) (p : Nat → Bool) : Bool := (List.range n).all p
theorem allB_t {n : Nat} {p : Nat → Bool} : allB n p = true ↔ ∀ i, i < n → p i = true := by simp [allB]
theorem allB_f {n j : Nat} {p : Nat → Bool} (hj : j < n) (h : p j = false) : allB n p = false := by
  cases e : allB n p with
  | false => rfl
  | true => rw [allB_t.1 e j hj] at h; cases h
/-- an ending of IndexFunc: p: what is not looked for -/
def IxEnd (p : Nat → Bool) (n : Nat) (e : Ending) : Prop := (allB n p = true ∧ e = .returned (.int .i64 (-1))) ∨ ∃ j : Nat, j < n ∧ allB n p = false ∧ e = .returned (.int .i64 j)

def shareB (A B : Nat → Int) (i : Nat) : Bool := spanB (A i) (B i) 0 100000000
/-- a row is as it should be -/
def rowB (wide : Nat) (r : RowD) : Bool := decide (r.n = wide) && allB r.n (shareB r.A r.B)
def climH (C : Clim) : Bool := inB C.days 1 366 && (inB C.nA 1 8 && (decide (C.nW = C.nA) && inB (C.RA 0).n 1 12))
def climB (C : Clim) : Bool := climH C && (allB C.nA (fun i => rowB (C.RA 0).n (C.RA i)) && allB C.nW (fun i => rowB (C.RA 0).n (C.RW i)))

attribute [local go_sem] gw_cell gw_frozen gw_size

set_option maxHeartbeats 1000000 in
theorem notShare (lo hi : Int) (w : World) :
    Calls Tryz.prog 101 #[.agg #[.int .i64 lo, .int .i64 hi]] w fun e w' => e = .returned (.bool (!spanB lo hi 0 100000000)) ∧ Below w.heap.size w w' := by
  cases h : spanB lo hi 0 100000000
  all_goals
    have H := Lib.hid h; clear h
    go_enter Tryz.func101, Tryz.ntmps101
    go_wp2_with fail
    refine (Calls.grown (isSpan_b _ _ _ _ _ H.out)).mono ?_
    rintro e w1 ⟨rfl, x, rfl⟩
    go_wp2_with fail
    go_ret
    exact ⟨rfl, RowKit.Below.gw (below_alloc _ _) x⟩

set_option maxHeartbeats 1000000 in
theorem ixShare (a : Option Addr) (n c : Nat) (A B : Nat → Int) (w : World) (hn : n ≤ 9223372036854775807) (hS : SpansAt w a n A B) :
    Calls Tryz.prog 104 #[.slice a n c, .func (.func 101) #[] #[]] w fun e w' => IxEnd (shareB A B) n e ∧ Below w.heap.size w w' := by
  have HS := Lib.hid hS; clear hS
  go_enter Tryz.func104, Tryz.ntmps104
  go_wp2_with fail
  go_loopw [8] (fun t wr => ∃ k : Nat, k ≤ n ∧ t = .int .i64 k ∧ Hid (∀ i, i < k → shareB A B i = true) ∧ ∃ x, wr = gw w x) (fun t _ => n - (intOf t).toNat)
  case atStart => exact ⟨0, Nat.zero_le _, rfl, Lib.hid (fun i hi => by omega), ⟨#[], w.drawn⟩, by simp [gw]⟩
  case round =>
    obtain ⟨k, hk, rfl, hall, x, rfl⟩ := hrel
    by_cases hlt : k < n
    · rcases HS.out with h0 | ⟨b, off, rfl, lb, hc⟩
      · omega
      obtain ⟨x1, x2⟩ := hc k hlt
      clear hc
      have NS := Lib.hid (notShare (A k) (B k) (gw w x))
      cases hp : shareB A B k with
      | true =>
        have hp' : spanB (A k) (B k) 0 100000000 = true := hp
        rw [hp'] at NS
        have HP := Lib.hid hp; clear hp hp'
        go_wp2_with fail
        refine (Calls.gw_of NS.out).mono ?_
        rintro e w1 ⟨rfl, y, rfl⟩
        go_wp2_with fail
        go_roundw
        case rel => exact ⟨k + 1, by omega, by go_num, Lib.hid (all_succ (P := fun i => shareB A B i = true) hall.out HP.out), y, rfl⟩
        case measure => simp [intOf]; omega
      | false =>
        have hp' : spanB (A k) (B k) 0 100000000 = false := hp
        rw [hp'] at NS
        have HP := Lib.hid hp; clear hp hp'
        go_wp2_with fail
        refine (Calls.gw_of NS.out).mono ?_
        rintro e w1 ⟨rfl, y, rfl⟩
        go_wp2_with fail
        go_ret
        exact ⟨.inr ⟨k, hlt, allB_f hlt HP.out, rfl⟩, below_gw w y⟩
    · obtain rfl : n = k := by omega
      go_wp2_with fail
      go_ret
      exact ⟨.inl ⟨allB_t.2 hall.out, rfl⟩, below_gw w x⟩

set_option maxHeartbeats 1000000 in
theorem hasShare (a : Option Addr) (n c : Nat) (A B : Nat → Int) (w : World) (hn : n ≤ 9223372036854775807) (hS : SpansAt w a n A B) :
    Calls Tryz.prog 100 #[.slice a n c, .func (.func 101) #[] #[]] w fun e w' => e = .returned (.bool (!allB n (shareB A B))) ∧ Below w.heap.size w w' := by
  have IX := Lib.hid (ixShare a n c A B w hn hS); clear hS
  go_enter Tryz.func100, Tryz.ntmps100
  go_wp2_with fail
  refine IX.out.mono ?_
  rintro e w1 ⟨he, hb⟩
  have HB := Lib.hid hb; clear hb
  rcases he with ⟨h, rfl⟩ | ⟨j, hj, h, rfl⟩
  · have H := Lib.hid h; clear h
    go_wp2_with fail
    go_ret
    exact ⟨by rw [H.out]; rfl, HB.out⟩
  · have H := Lib.hid h; clear h
    go_wp2_with fail
    go_ret
    exact ⟨by rw [H.out]; rfl, HB.out⟩
end Go.Proofs.YtjgnafhbeekebaaGreat.L7

namespace Go.Proofs.YtjgnafhbeekebaaGreat.L7
open Go.RowKit

attribute [local go_sem] gw_cell gw_frozen gw_size

theorem RowsAt.get {w : World} {a : Option Addr} {n : Nat} {R : Nat → RowD} (h : RowsAt w a n R) (hn : 0 < n) : ∃ b off, a = some ⟨b, off, none⟩ ∧ b < w.heap.size ∧ ∀ i, i < n → w.cell? ⟨b, off + i, none⟩ = some (.slice (R i).a (R i).n (R i).c) ∧ SpansAt w (R i).a (R i).n (R i).A (R i).B := by
  rcases h with h | h
  · omega
  · exact h
/-- the head of a slice of rows -/
theorem RowsAt.first {w : World} {a : Option Addr} {n : Nat} {R : Nat → RowD} (h : RowsAt w a n R) (hn : 0 < n) : ∃ b off, a = some ⟨b, off, none⟩ ∧ b < w.heap.size ∧ w.cell? ⟨b, off, none⟩ = some (.slice (R 0).a (R 0).n (R 0).c) := by
  obtain ⟨b, off, e, lb, hc⟩ := h.get hn
  exact ⟨b, off, e, lb, by simpa using (hc 0 hn).1⟩

set_option maxHeartbeats 1000000 in
theorem badRow (C : Clim) (r : RowD) (bc : Nat) (w : World) (hC : C.At w bc) (h0 : 0 < C.nA) (hf : C.Fits) (hn : r.n ≤ 9223372036854775807) (hS : SpansAt w r.a r.n r.A r.B) :
    Calls Tryz.prog 99 #[.slice r.a r.n r.c, .pointer (some ⟨bc, 0, none⟩)] w fun e w' => e = .returned (.bool (!rowB (C.RA 0).n r)) ∧ Below w.heap.size w w' := by
  have c1 := hC.c1
  have lt := hC.lt
  obtain ⟨b, off, ea, lb, x0⟩ := hC.i.ra.first h0
  have l0 := hf.la 0 h0
  rw [ea] at c1
  have HS := Lib.hid (hasShare r.a r.n r.c r.A r.B w hn hS)
  clear hC hS hf ea
  by_cases hl : r.n = (C.RA 0).n
  · have e1 : ((r.n : Int) != ((C.RA 0).n : Int)) = false := by simp; omega
    have RB := Lib.hid (show rowB (C.RA 0).n r = allB r.n (shareB r.A r.B) by unfold rowB; rw [decide_eq_true hl]; rfl)
    have HL := Lib.hid hl; clear hl
    go_enter Tryz.func99, Tryz.ntmps99
    go_wp2_with fail
    refine HS.out.mono ?_
    rintro e w1 ⟨rfl, hb⟩
    have HB := Lib.hid hb; clear hb
    go_wp2_with fail
    go_ret
    exact ⟨by rw [RB.out]; rfl, HB.out⟩
  · have e1 : ((r.n : Int) != ((C.RA 0).n : Int)) = true := by simp; omega
    have RB := Lib.hid (show rowB (C.RA 0).n r = false by unfold rowB; rw [decide_eq_false hl]; rfl)
    have HL := Lib.hid hl; clear hl
    go_enter Tryz.func99, Tryz.ntmps99
    go_wp2_with fail
    go_ret
    exact ⟨by rw [RB.out]; rfl, Below.refl _ _⟩

set_option maxHeartbeats 1000000 in
theorem ixRow (C : Clim) (bc : Nat) (a : Option Addr) (n c : Nat) (R : Nat → RowD) (w : World) (hC : C.At w bc) (h0 : 0 < C.nA) (hf : C.Fits) (hn : n ≤ 9223372036854775807) (hl : ∀ i, i < n → (R i).n ≤ 9223372036854775807) (hS : RowsAt w a n R) :
    Calls Tryz.prog 105 #[.slice a n c, .func (.func 99) #[] #[.pointer (some ⟨bc, 0, none⟩)]] w fun e w' => IxEnd (fun i => rowB (C.RA 0).n (R i)) n e ∧ Below w.heap.size w w' := by
  have HS := Lib.hid hS; clear hS
  have HL := Lib.hid hl; clear hl
  have HC := Lib.hid hC; clear hC
  go_enter Tryz.func105, Tryz.ntmps105
  go_wp2_with fail
  go_loopw [8] (fun t wr => ∃ k : Nat, k ≤ n ∧ t = .int .i64 k ∧ Hid (∀ i, i < k → (fun i => rowB (C.RA 0).n (R i)) i = true) ∧ ∃ x, wr = gw w x) (fun t _ => n - (intOf t).toNat)
  case atStart => exact ⟨0, Nat.zero_le _, rfl, Lib.hid (fun i hi => by omega), ⟨#[], w.drawn⟩, by simp [gw]⟩
  case round =>
    obtain ⟨k, hk, rfl, hall, x, rfl⟩ := hrel
    by_cases hlt : k < n
    · obtain ⟨b, off, rfl, lb, hc⟩ := HS.out.get (by omega)
      obtain ⟨x1, x2⟩ := hc k hlt
      clear hc
      have NS := Lib.hid (badRow C (R k) bc (gw w x) (HC.out.below (below_gw w x)) h0 hf (HL.out k hlt) (x2.below (below_gw w x)))
      clear x2
      cases hp : rowB (C.RA 0).n (R k) with
      | true =>
        rw [hp] at NS
        have HP := Lib.hid hp; clear hp
        go_wp2_with fail
        refine (Calls.gw_of NS.out).mono ?_
        rintro e w1 ⟨rfl, y, rfl⟩
        go_wp2_with fail
        go_roundw
        case rel => exact ⟨k + 1, by omega, by go_num, Lib.hid (all_succ (P := fun i => rowB (C.RA 0).n (R i) = true) hall.out HP.out), y, rfl⟩
        case measure => simp [intOf]; omega
      | false =>
        rw [hp] at NS
        have HP := Lib.hid hp; clear hp
        go_wp2_with fail
        refine (Calls.gw_of NS.out).mono ?_
        rintro e w1 ⟨rfl, y, rfl⟩
        go_wp2_with fail
        go_ret
        exact ⟨.inr ⟨k, hlt, allB_f hlt HP.out, rfl⟩, below_gw w y⟩
    · obtain rfl : n = k := by omega
      go_wp2_with fail
      go_ret
      exact ⟨.inl ⟨allB_t.2 hall.out, rfl⟩, below_gw w x⟩

set_option maxHeartbeats 1000000 in
theorem hasRow (C : Clim) (bc : Nat) (a : Option Addr) (n c : Nat) (R : Nat → RowD) (w : World) (hC : C.At w bc) (h0 : 0 < C.nA) (hf : C.Fits) (hn : n ≤ 9223372036854775807) (hl : ∀ i, i < n → (R i).n ≤ 9223372036854775807) (hS : RowsAt w a n R) :
    Calls Tryz.prog 102 #[.slice a n c, .func (.func 99) #[] #[.pointer (some ⟨bc, 0, none⟩)]] w fun e w' => e = .returned (.bool (!allB n (fun i => rowB (C.RA 0).n (R i)))) ∧ Below w.heap.size w w' := by
  have IX := Lib.hid (ixRow C bc a n c R w hC h0 hf hn hl hS); clear hS hl hC
  go_enter Tryz.func102, Tryz.ntmps102
  go_wp2_with fail
  refine IX.out.mono ?_
  rintro e w1 ⟨he, hb⟩
  have HB := Lib.hid hb; clear hb
  rcases he with ⟨h, rfl⟩ | ⟨j, hj, h, rfl⟩
  · have H := Lib.hid h; clear h
    go_wp2_with fail
    go_ret
    exact ⟨by rw [H.out]; rfl, HB.out⟩
  · have H := Lib.hid h; clear h
    go_wp2_with fail
    go_ret
    exact ⟨by rw [H.out]; rfl, HB.out⟩

/-- a climate's box, just made -/
theorem clim_box (C : Clim) (w : World) (h : C.In w) : C.At (w.alloc (.cells #[.int .i64 C.days, .slice C.aA C.nA C.cA, .slice C.aW C.nW C.cW] 30)) w.heap.size :=
  ⟨World.alloc_heap_new w _, h.below (below_alloc w _)⟩

set_option maxRecDepth 100000 in
set_option maxHeartbeats 4000000 in
theorem isClimate_any (C : Clim) (w : World) (hC : C.In w) (hf : C.Fits) :
    Calls Tryz.prog 88 #[.agg #[.int .i64 C.days, .slice C.aA C.nA C.cA, .slice C.aW C.nW C.cW]] w fun e w' => e = .returned (.bool (climB C)) ∧ Below w.heap.size w w' := by
  obtain ⟨W1, hW1⟩ : ∃ W1, w.alloc (.cells #[.int .i64 C.days, .slice C.aA C.nA C.cA, .slice C.aW C.nW C.cW] 30) = W1 := ⟨_, rfl⟩
  have hB : Below w.heap.size w W1 := by rw [← hW1]; exact below_alloc _ _
  have hbox : C.At W1 w.heap.size := by rw [← hW1]; exact clim_box C w hC
  have c0 := hbox.c0
  have c1 := hbox.c1
  have c2 := hbox.c2
  have lt := hbox.lt
  have BOX := Lib.hid hbox; clear hbox
  have HB := Lib.hid hB; clear hB
  have HW1 := Lib.hid hW1; clear hW1
  have na := hf.na
  have nw := hf.nw
  cases h1 : inB C.days 1 366 with
  | false =>
    have RB := Lib.hid (show climB C = false by unfold climB climH; rw [h1]; rfl)
    have H1 := Lib.hid h1; clear h1
    go_enter Tryz.func88, Tryz.ntmps88
    go_wp2_with fail
    rw [HW1.out]
    go_wp2_with fail
    refine (within_b _ _ _ _ H1.out).mono ?_
    rintro e w1 ⟨rfl, rfl⟩
    go_wp2_with fail
    go_ret
    exact ⟨by rw [RB.out]; rfl, HB.out⟩
  | true =>
    cases h2 : inB C.nA 1 8 with
    | false =>
      have RB := Lib.hid (show climB C = false by unfold climB climH; rw [h1, h2]; rfl)
      have H1 := Lib.hid h1; clear h1
      have H2 := Lib.hid h2; clear h2
      go_enter Tryz.func88, Tryz.ntmps88
      go_wp2_with fail
      rw [HW1.out]
      go_wp2_with fail
      refine (within_b _ _ _ _ H1.out).mono ?_
      rintro e w1 ⟨rfl, rfl⟩
      go_wp2_with fail
      refine (within_b _ _ _ _ H2.out).mono ?_
      rintro e w1 ⟨rfl, rfl⟩
      go_wp2_with fail
      go_ret
      exact ⟨by rw [RB.out]; rfl, HB.out⟩
    | true =>
      have r2 := inB_t.1 h2
      by_cases h3 : C.nW = C.nA
      · have e3 : ((C.nW : Int) != (C.nA : Int)) = false := by simp; omega
        obtain ⟨b, off, ea, lb, x0⟩ := BOX.out.i.ra.first (by omega)
        have ea' := ea
        rw [ea] at c1
        have l0 := hf.la 0 (by omega)
        have HF := Lib.hid hf
        cases h4 : inB (C.RA 0).n 1 12 with
        | false =>
          have RB := Lib.hid (show climB C = false by unfold climB climH; rw [h1, h2, decide_eq_true h3, h4]; rfl)
          have H1 := Lib.hid h1; clear h1
          have H2 := Lib.hid h2; clear h2
          have H3 := Lib.hid h3; clear h3
          have H4 := Lib.hid h4; clear h4
          clear ea ea'
          go_enter Tryz.func88, Tryz.ntmps88
          go_wp2_with fail
          rw [HW1.out]
          go_wp2_with fail
          refine (within_b _ _ _ _ H1.out).mono ?_
          rintro e w1 ⟨rfl, rfl⟩
          go_wp2_with fail
          refine (within_b _ _ _ _ H2.out).mono ?_
          rintro e w1 ⟨rfl, rfl⟩
          go_wp2_with fail
          refine (within_b _ _ _ _ H4.out).mono ?_
          rintro e w1 ⟨rfl, rfl⟩
          go_wp2_with fail
          go_ret
          exact ⟨by rw [RB.out]; rfl, HB.out⟩
        | true =>
          have H1 := Lib.hid h1; clear h1
          have H2 := Lib.hid h2; clear h2
          have H3 := Lib.hid h3; clear h3
          have H4 := Lib.hid h4; clear h4
          clear ea
          have AA := Lib.hid (hasRow C w.heap.size C.aA C.nA C.cA C.RA W1 BOX.out (by omega) HF.out HF.out.na HF.out.la BOX.out.i.ra)
          rw [ea'] at AA
          have AW := Lib.hid (fun x => hasRow C w.heap.size C.aW C.nW C.cW C.RW (gw W1 x) (BOX.out.below (below_gw W1 x)) (by omega) HF.out HF.out.nw HF.out.lw (BOX.out.below (below_gw W1 x)).i.rw)
          have CB := Lib.hid (show climB C = (allB C.nA (fun i => rowB (C.RA 0).n (C.RA i)) && allB C.nW (fun i => rowB (C.RA 0).n (C.RW i))) by unfold climB climH; rw [H1.out, H2.out, decide_eq_true H3.out, H4.out]; rfl)
          clear ea'
          cases ha : allB C.nA (fun i => rowB (C.RA 0).n (C.RA i)) with
          | false =>
            have RB := Lib.hid (show climB C = false by rw [CB.out, ha]; rfl)
            rw [ha] at AA
            clear ha
            go_enter Tryz.func88, Tryz.ntmps88
            go_wp2_with fail
            rw [HW1.out]
            go_wp2_with fail
            refine (within_b _ _ _ _ H1.out).mono ?_
            rintro e w1 ⟨rfl, rfl⟩
            go_wp2_with fail
            refine (within_b _ _ _ _ H2.out).mono ?_
            rintro e w1 ⟨rfl, rfl⟩
            go_wp2_with fail
            refine (within_b _ _ _ _ H4.out).mono ?_
            rintro e w1 ⟨rfl, rfl⟩
            go_wp2_with fail
            refine (Calls.grown AA.out).mono ?_
            rintro e w1 ⟨rfl, y, rfl⟩
            go_wp2_with fail
            go_ret
            exact ⟨by rw [RB.out]; rfl, HB.out.gw y⟩
          | true =>
            rw [ha] at AA
            cases hw : allB C.nW (fun i => rowB (C.RA 0).n (C.RW i)) with
            | false =>
              have RB := Lib.hid (show climB C = false by rw [CB.out, ha, hw]; rfl)
              rw [hw] at AW
              clear ha hw
              go_enter Tryz.func88, Tryz.ntmps88
              go_wp2_with fail
              rw [HW1.out]
              go_wp2_with fail
              refine (within_b _ _ _ _ H1.out).mono ?_
              rintro e w1 ⟨rfl, rfl⟩
              go_wp2_with fail
              refine (within_b _ _ _ _ H2.out).mono ?_
              rintro e w1 ⟨rfl, rfl⟩
              go_wp2_with fail
              refine (within_b _ _ _ _ H4.out).mono ?_
              rintro e w1 ⟨rfl, rfl⟩
              go_wp2_with fail
              refine (Calls.grown AA.out).mono ?_
              rintro e w1 ⟨rfl, y, rfl⟩
              go_wp2_with fail
              refine (Calls.gw_of (AW.out y)).mono ?_
              rintro e w1 ⟨rfl, z, rfl⟩
              go_wp2_with fail
              go_ret
              exact ⟨by rw [RB.out]; rfl, HB.out.gw z⟩
            | true =>
              have RB := Lib.hid (show climB C = true by rw [CB.out, ha, hw]; rfl)
              rw [hw] at AW
              clear ha hw
              go_enter Tryz.func88, Tryz.ntmps88
              go_wp2_with fail
              rw [HW1.out]
              go_wp2_with fail
              refine (within_b _ _ _ _ H1.out).mono ?_
              rintro e w1 ⟨rfl, rfl⟩
              go_wp2_with fail
              refine (within_b _ _ _ _ H2.out).mono ?_
              rintro e w1 ⟨rfl, rfl⟩
              go_wp2_with fail
              refine (within_b _ _ _ _ H4.out).mono ?_
              rintro e w1 ⟨rfl, rfl⟩
              go_wp2_with fail
              refine (Calls.grown AA.out).mono ?_
              rintro e w1 ⟨rfl, y, rfl⟩
              go_wp2_with fail
              refine (Calls.gw_of (AW.out y)).mono ?_
              rintro e w1 ⟨rfl, z, rfl⟩
              go_wp2_with fail
              go_ret
              exact ⟨by rw [RB.out]; rfl, HB.out.gw z⟩
      · have e3 : ((C.nW : Int) != (C.nA : Int)) = true := by simp; omega
        have RB := Lib.hid (show climB C = false by unfold climB climH; rw [h1, h2, decide_eq_false h3]; rfl)
        have H1 := Lib.hid h1; clear h1
        have H2 := Lib.hid h2; clear h2
        have H3 := Lib.hid h3; clear h3
        go_enter Tryz.func88, Tryz.ntmps88
        go_wp2_with fail
        rw [HW1.out]
        go_wp2_with fail
        refine (within_b _ _ _ _ H1.out).mono ?_
        rintro e w1 ⟨rfl, rfl⟩
        go_wp2_with fail
        refine (within_b _ _ _ _ H2.out).mono ?_
        rintro e w1 ⟨rfl, rfl⟩
        go_wp2_with fail
        go_ret
        exact ⟨by rw [RB.out]; rfl, HB.out⟩
end Go.Proofs.YtjgnafhbeekebaaGreat.L7

namespace Go.Proofs.YtjgnafhbeekebaaGreat.L7
open Go.RowKit

attribute [local go_sem] gw_cell gw_frozen gw_size

/-- a content -/
structure Cont where
  day : Int
  alo : Int
  ahi : Int
  wlo : Int
  whi : Int
def contB (x : Cont) : Bool := inB x.day 0 65536 && (spanB x.alo x.ahi 0 2147483648 && spanB x.wlo x.whi 0 2147483648)
theorem contB_t {x : Cont} (h : contB x = true) : (0 ≤ x.day ∧ x.day ≤ 65536) ∧ (0 ≤ x.alo ∧ x.alo ≤ x.ahi ∧ x.ahi ≤ 2147483648) ∧ (0 ≤ x.wlo ∧ x.wlo ≤ x.whi ∧ x.whi ≤ 2147483648) := by
  simp only [contB, Bool.and_eq_true] at h
  exact ⟨inB_t.1 h.1, spanB_t.1 h.2.1, spanB_t.1 h.2.2⟩

set_option maxHeartbeats 1000000 in
theorem isContent_any (x : Cont) (w : World) :
    Calls Tryz.prog 40 #[.agg #[.int .i64 x.day, .int .i64 x.alo, .int .i64 x.ahi, .int .i64 x.wlo, .int .i64 x.whi]] w fun e w' => e = .returned (.bool (contB x)) ∧ Below w.heap.size w w' := by
  obtain ⟨W1, hW1⟩ : ∃ W1, w.alloc (.cells #[.int .i64 x.day, .int .i64 x.alo, .int .i64 x.ahi, .int .i64 x.wlo, .int .i64 x.whi] 32) = W1 := ⟨_, rfl⟩
  have hB : Below w.heap.size w W1 := by rw [← hW1]; exact below_alloc _ _
  have hk : W1.heap[w.heap.size]? = some (.cells #[.int .i64 x.day, .int .i64 x.alo, .int .i64 x.ahi, .int .i64 x.wlo, .int .i64 x.whi] 32 (0, 0)) := by rw [← hW1]; exact World.alloc_heap_new w _
  have k0 : W1.cell? ⟨w.heap.size, 0, none⟩ = some (.int .i64 x.day) := cell_of_block hk 0 (by simp)
  have k1 : W1.cell? ⟨w.heap.size, 1, none⟩ = some (.int .i64 x.alo) := cell_of_block hk 1 (by simp)
  have k2 : W1.cell? ⟨w.heap.size, 2, none⟩ = some (.int .i64 x.ahi) := cell_of_block hk 2 (by simp)
  have k3 : W1.cell? ⟨w.heap.size, 3, none⟩ = some (.int .i64 x.wlo) := cell_of_block hk 3 (by simp)
  have k4 : W1.cell? ⟨w.heap.size, 4, none⟩ = some (.int .i64 x.whi) := cell_of_block hk 4 (by simp)
  have lt := (Array.getElem?_eq_some_iff.1 hk).1
  have HB := Lib.hid hB; clear hB hk
  have HW1 := Lib.hid hW1; clear hW1
  cases h1 : inB x.day 0 65536 with
  | false =>
    have RB := Lib.hid (show contB x = false by unfold contB; rw [h1]; rfl)
    have H1 := Lib.hid h1; clear h1
    go_enter Tryz.func40, Tryz.ntmps40
    go_wp2_with fail
    rw [HW1.out]
    go_wp2_with fail
    refine (within_b _ _ _ _ H1.out).mono ?_
    rintro e w1 ⟨rfl, rfl⟩
    go_wp2_with fail
    go_ret
    exact ⟨by rw [RB.out]; rfl, HB.out⟩
  | true =>
    cases h2 : spanB x.alo x.ahi 0 2147483648 with
    | false =>
      have RB := Lib.hid (show contB x = false by unfold contB; rw [h1, h2]; rfl)
      have H1 := Lib.hid h1; clear h1
      have H2 := Lib.hid h2; clear h2
      go_enter Tryz.func40, Tryz.ntmps40
      go_wp2_with fail
      rw [HW1.out]
      go_wp2_with fail
      refine (within_b _ _ _ _ H1.out).mono ?_
      rintro e w1 ⟨rfl, rfl⟩
      go_wp2_with fail
      refine (Calls.grown (isSpan_b _ _ _ _ _ H2.out)).mono ?_
      rintro e w1 ⟨rfl, y, rfl⟩
      go_wp2_with fail
      go_ret
      exact ⟨by rw [RB.out]; rfl, HB.out.gw y⟩
    | true =>
      cases h3 : spanB x.wlo x.whi 0 2147483648
      all_goals
        have RB := Lib.hid (show contB x = _ by unfold contB; rw [h1, h2, h3])
        have H1 := Lib.hid h1; clear h1
        have H2 := Lib.hid h2; clear h2
        have H3 := Lib.hid h3; clear h3
        go_enter Tryz.func40, Tryz.ntmps40
        go_wp2_with fail
        rw [HW1.out]
        go_wp2_with fail
        refine (within_b _ _ _ _ H1.out).mono ?_
        rintro e w1 ⟨rfl, rfl⟩
        go_wp2_with fail
        refine (Calls.grown (isSpan_b _ _ _ _ _ H2.out)).mono ?_
        rintro e w1 ⟨rfl, y, rfl⟩
        go_wp2_with fail
        refine (Calls.gw_of (isSpan_b _ _ _ _ _ H3.out)).mono ?_
        rintro e w1 ⟨rfl, z, rfl⟩
        go_wp2_with fail
        go_ret
        exact ⟨by rw [RB.out]; rfl, HB.out.gw z⟩

theorem isContent_b {b : Bool} (x : Cont) (w : World) (h : contB x = b) :
    Calls Tryz.prog 40 #[.agg #[.int .i64 x.day, .int .i64 x.alo, .int .i64 x.ahi, .int .i64 x.wlo, .int .i64 x.whi]] w fun e w' => e = .returned (.bool b) ∧ Below w.heap.size w w' := h ▸ isContent_any x w
theorem isClimate_b {b : Bool} (C : Clim) (w : World) (hC : C.In w) (hf : C.Fits) (h : climB C = b) :
    Calls Tryz.prog 88 #[.agg #[.int .i64 C.days, .slice C.aA C.nA C.cA, .slice C.aW C.nW C.cW]] w fun e w' => e = .returned (.bool b) ∧ Below w.heap.size w w' := h ▸ isClimate_any C w hC hf

/-- a stay is as it should be -/
def stayB (nA : Nat) (F G : Nat → Int) (i : Nat) : Bool := inB (F i) 0 65536 && (inB (G i) 0 (nA - 1) && (decide (i = 0) || decide (F (i - 1) < F i)))
def staysB (nA n : Nat) (F G : Nat → Int) : Bool := inB n 1 64 && allB n (stayB nA F G)

set_option maxRecDepth 100000 in
set_option maxHeartbeats 4000000 in
theorem areStays_any (C : Clim) (aS : Option Addr) (n c : Nat) (F G : Nat → Int) (w : World) (hf : C.Fits) (hn : n ≤ 9223372036854775807) (hS : SpansAt w aS n F G) :
    Calls Tryz.prog 89 #[.agg #[.int .i64 C.days, .slice C.aA C.nA C.cA, .slice C.aW C.nW C.cW], .slice aS n c] w fun e w' => e = .returned (.bool (staysB C.nA n F G)) ∧ Below w.heap.size w w' := by
  have na := hf.na
  clear hf
  obtain ⟨W1, hW1⟩ : ∃ W1, w.alloc (.cells #[.int .i64 C.days, .slice C.aA C.nA C.cA, .slice C.aW C.nW C.cW] 30) = W1 := ⟨_, rfl⟩
  have hB : Below w.heap.size w W1 := by rw [← hW1]; exact below_alloc _ _
  have c1 : W1.cell? ⟨w.heap.size, 1, none⟩ = some (.slice C.aA C.nA C.cA) := by rw [← hW1]; simp
  have lt : w.heap.size < W1.heap.size := by rw [← hW1]; simp
  have HS := Lib.hid (hS.below hB); clear hS
  have HB := Lib.hid hB; clear hB
  have HW1 := Lib.hid hW1; clear hW1
  go_enter Tryz.func89, Tryz.ntmps89
  go_wp2_with fail
  rw [HW1.out]
  go_loopw [9] (fun t wr => ∃ k : Nat, k ≤ n ∧ t = .int .i64 k ∧ Hid (∀ i, i < k → stayB C.nA F G i = true) ∧ ∃ x, wr = gw W1 x) (fun t _ => n - (intOf t).toNat)
  case atStart => exact ⟨0, Nat.zero_le _, rfl, Lib.hid (fun i hi => by omega), ⟨#[], W1.drawn⟩, by simp [gw]⟩
  case round =>
    obtain ⟨k, hk, rfl, hall, x, rfl⟩ := hrel
    by_cases hlt : k < n
    · rcases HS.out with h0 | ⟨b, off, rfl, lb, hc⟩
      · omega
      obtain ⟨x1, x2⟩ := hc k hlt
      have xp := fun h : 0 < k => (hc (k - 1) (by omega)).1
      clear hc
      obtain ⟨W2, hW2⟩ : ∃ W2, (gw W1 x).alloc (.cells #[.int .i64 (F k), .int .i64 (G k)] 41) = W2 := ⟨_, rfl⟩
      have hB2 : Below (gw W1 x).heap.size (gw W1 x) W2 := by rw [← hW2]; exact below_alloc _ _
      have B12 : Below W1.heap.size W1 W2 := thru hB2 (below_gw W1 x)
      have q0 : W2.cell? ⟨(gw W1 x).heap.size, 0, none⟩ = some (.int .i64 (F k)) := by rw [← hW2]; simp
      have q1 : W2.cell? ⟨(gw W1 x).heap.size, 1, none⟩ = some (.int .i64 (G k)) := by rw [← hW2]; simp
      have ql : (gw W1 x).heap.size < W2.heap.size := by rw [← hW2]; simp
      have c1' := below_cell B12 c1
      have lt' : w.heap.size < W2.heap.size := Nat.lt_of_lt_of_le lt B12.size
      have lb' : b < W2.heap.size := Nat.lt_of_lt_of_le lb B12.size
      have xp' := fun h : 0 < k => below_cell B12 (xp h)
      clear xp
      have HB2 := Lib.hid B12; clear hB2 B12
      rw [gw_size] at q0 q1 ql
      have HW2 := Lib.hid hW2; clear hW2
      cases g1 : inB (F k) 0 65536 with
      | false =>
        have RB := Lib.hid (show staysB C.nA n F G = false by unfold staysB; rw [allB_f hlt (show stayB C.nA F G k = false by unfold stayB; rw [g1]; rfl)]; simp)
        have G1 := Lib.hid g1; clear g1 xp'
        go_upto_region 4 with (fail)
        rw [HW2.out]
        refine wp_region_gw (by kernel_rfl) (by kernel_rfl) ?_
        repeat (go_big_quiet_step ((go_at_call 65; first | exact Calls.gw_of_same (within_b _ _ _ _ G1.out) | exact Calls.gw_of_same (within_b _ _ _ _ G2.out))))
        refine wpQuiet_nil ?_
        rintro _ ⟨z, rfl⟩
        go_wp2_with fail
        go_ret
        exact ⟨by rw [RB.out]; rfl, (thru HB2.out HB.out).gw z⟩
      | true =>
        cases g2 : inB (G k) 0 (C.nA - 1) with
        | false =>
          have RB := Lib.hid (show staysB C.nA n F G = false by unfold staysB; rw [allB_f hlt (show stayB C.nA F G k = false by unfold stayB; rw [g1, g2]; rfl)]; simp)
          have G1 := Lib.hid g1; clear g1 xp'
          have G2 := Lib.hid g2; clear g2
          go_upto_region 4 with (fail)
          rw [HW2.out]
          refine wp_region_gw (by kernel_rfl) (by kernel_rfl) ?_
          repeat (go_big_quiet_step ((go_at_call 65; first | exact Calls.gw_of_same (within_b _ _ _ _ G1.out) | exact Calls.gw_of_same (within_b _ _ _ _ G2.out))))
          refine wpQuiet_nil ?_
          rintro _ ⟨z, rfl⟩
          go_wp2_with fail
          go_ret
          exact ⟨by rw [RB.out]; rfl, (thru HB2.out HB.out).gw z⟩
        | true =>
          by_cases hk0 : k = 0
          · have ST := Lib.hid (show stayB C.nA F G k = true by unfold stayB; rw [g1, g2, decide_eq_true hk0]; rfl)
            have e1 : decide (0 < k) = false := by simp; omega
            have HK0 := Lib.hid hk0; clear hk0
            have G1 := Lib.hid g1; clear g1 xp'
            have G2 := Lib.hid g2; clear g2
            go_upto_region 4 with (fail)
            rw [HW2.out]
            refine wp_region_gw (by kernel_rfl) (by kernel_rfl) ?_
            repeat (go_big_quiet_step ((go_at_call 65; first | exact Calls.gw_of_same (within_b _ _ _ _ G1.out) | exact Calls.gw_of_same (within_b _ _ _ _ G2.out))))
            refine wpQuiet_nil ?_
            rintro _ ⟨z, rfl⟩
            go_wp2_with fail
            go_roundw
            case rel => exact ⟨k + 1, by omega, by go_num, Lib.hid (all_succ (P := fun i => stayB C.nA F G i = true) hall.out ST.out), gw_of_below ((HB2.out).gw z)⟩
            case measure => simp [intOf]; omega
          · have k1 : 0 < k := by omega
            have e1 : decide ((0 : Int) < (k : Int)) = true := by simp; omega
            obtain ⟨j, rfl⟩ : ∃ j : Nat, k = j + 1 := ⟨k - 1, by omega⟩
            have xj := xp' k1
            rw [Nat.add_sub_cancel] at xj
            by_cases g3 : F j < F (j + 1)
            · have ST := Lib.hid (show stayB C.nA F G (j + 1) = true by unfold stayB; rw [g1, g2, Nat.add_sub_cancel, decide_eq_true g3]; simp)
              have e3 : decide (F (j + 1) ≤ F j) = false := by simp; omega
              have G1 := Lib.hid g1; clear g1 xp'
              have G2 := Lib.hid g2; clear g2
              go_upto_region 4 with (fail)
              rw [HW2.out]
              refine wp_region_gw (by kernel_rfl) (by kernel_rfl) ?_
              repeat (go_big_quiet_step ((go_at_call 65; first | exact Calls.gw_of_same (within_b _ _ _ _ G1.out) | exact Calls.gw_of_same (within_b _ _ _ _ G2.out))))
              refine wpQuiet_nil ?_
              rintro _ ⟨z, rfl⟩
              go_wp2_with fail
              go_roundw
              case rel => exact ⟨j + 1 + 1, by omega, by go_num, Lib.hid (all_succ (P := fun i => stayB C.nA F G i = true) hall.out ST.out), gw_of_below ((HB2.out).gw z)⟩
              case measure => simp [intOf]; omega
            · have RB := Lib.hid (show staysB C.nA n F G = false by unfold staysB; rw [allB_f hlt (show stayB C.nA F G (j + 1) = false by unfold stayB; rw [g1, g2, Nat.add_sub_cancel, decide_eq_false g3]; simp)]; simp)
              have e3 : decide (F (j + 1) ≤ F j) = true := by simp; omega
              have G1 := Lib.hid g1; clear g1 xp'
              have G2 := Lib.hid g2; clear g2
              go_upto_region 4 with (fail)
              rw [HW2.out]
              refine wp_region_gw (by kernel_rfl) (by kernel_rfl) ?_
              repeat (go_big_quiet_step ((go_at_call 65; first | exact Calls.gw_of_same (within_b _ _ _ _ G1.out) | exact Calls.gw_of_same (within_b _ _ _ _ G2.out))))
              refine wpQuiet_nil ?_
              rintro _ ⟨z, rfl⟩
              go_wp2_with fail
              go_ret
              exact ⟨by rw [RB.out]; rfl, (thru HB2.out HB.out).gw z⟩
    · obtain rfl : n = k := by omega
      have AL := Lib.hid (allB_t.2 hall.out)
      cases g : inB n 1 64
      all_goals
        have RB := Lib.hid (show staysB C.nA n F G = _ by unfold staysB; rw [g, AL.out])
        have G0 := Lib.hid g; clear g
        go_wp2_with fail
        refine (within_b _ _ _ _ G0.out).mono ?_
        rintro e w1 ⟨rfl, rfl⟩
        go_wp2_with fail
        go_ret
        exact ⟨by rw [RB.out]; rfl, HB.out.gw x⟩
theorem areStays_b {b : Bool} (C : Clim) (aS : Option Addr) (n c : Nat) (F G : Nat → Int) (w : World) (hf : C.Fits) (hn : n ≤ 9223372036854775807) (hS : SpansAt w aS n F G) (h : staysB C.nA n F G = b) :
    Calls Tryz.prog 89 #[.agg #[.int .i64 C.days, .slice C.aA C.nA C.cA, .slice C.aW C.nW C.cW], .slice aS n c] w fun e w' => e = .returned (.bool b) ∧ Below w.heap.size w w' := h ▸ areStays_any C aS n c F G w hf hn hS
end Go.Proofs.YtjgnafhbeekebaaGreat.L7
