/- Climates and contents in memory. Contract of isClimate. No conditions beyond each theorem's own. -/
import Derived.Test.YtljofnmgddfljaaBa
import Derived.Test.YtljofnmgddfljaaAb
set_option linter.unusedVariables false
set_option linter.unusedSimpArgs false
set_option linter.unusedSectionVars false
set_option linter.constructorNameAsVariable false
namespace Go.Proofs.Ytljofnmgddfljaa
open Go.RowKit

/-- a row of spans -/
structure RowD where
  a : Option Addr
  n : Nat
  c : Nat
  A : Nat → Int
  B : Nat → Int
def RowsAt (w : World) (a : Option Addr) (n : Nat) (R : Nat → RowD) : Prop :=
  n = 0 ∨ ∃ b off, a = some ⟨b, off, none⟩ ∧ b < w.heap.size ∧ ∀ i, i < n → w.cell? ⟨b, off + i, none⟩ = some (.slice (R i).a (R i).n (R i).c) ∧ SpansAt w (R i).a (R i).n (R i).A (R i).B
theorem RowsAt.below {w w' : World} {a : Option Addr} {n : Nat} {R : Nat → RowD} (h : RowsAt w a n R) (hb : Below w.heap.size w w') : RowsAt w' a n R := by
  rcases h with h | ⟨b, off, rfl, hlt, hc⟩
  · exact .inl h
  · exact .inr ⟨b, off, rfl, Nat.lt_of_lt_of_le hlt hb.size, fun i hi => ⟨(hb.cell (p := ⟨b, off + i, none⟩) hlt).trans (hc i hi).1, (hc i hi).2.below hb⟩⟩

/-- a climate -/
structure Clim where
  days : Int
  aA : Option Addr
  nA : Nat
  cA : Nat
  aW : Option Addr
  nW : Nat
  cW : Nat
  RA : Nat → RowD
  RW : Nat → RowD
/-- its lists are there; no list is longer than a list can be -/
structure Clim.In (C : Clim) (w : World) : Prop where
  ra : RowsAt w C.aA C.nA C.RA
  rw : RowsAt w C.aW C.nW C.RW
theorem Clim.In.below {C : Clim} {w w' : World} (h : C.In w) (hb : Below w.heap.size w w') : C.In w' := ⟨h.ra.below hb, h.rw.below hb⟩
structure Clim.Fits (C : Clim) : Prop where
  na : C.nA ≤ 9223372036854775807
  nw : C.nW ≤ 9223372036854775807
  la : ∀ i, i < C.nA → (C.RA i).n ≤ 9223372036854775807
  lw : ∀ i, i < C.nW → (C.RW i).n ≤ 9223372036854775807
/-- a climate's box -/
structure Clim.At (C : Clim) (w : World) (bc : Nat) : Prop where
  blk : w.heap[bc]? = some (.cells #[.int .i64 C.days, .slice C.aA C.nA C.cA, .slice C.aW C.nW C.cW] 24 (0, 0))
  i : C.In w
section
variable {C : Clim} {w w' : World} {bc : Nat}
theorem Clim.At.lt (h : C.At w bc) : bc < w.heap.size := (Array.getElem?_eq_some_iff.1 h.blk).1
theorem Clim.At.c0 (h : C.At w bc) : w.cell? ⟨bc, 0, none⟩ = some (.int .i64 C.days) := cell_of_block h.blk 0 (by simp)
theorem Clim.At.c1 (h : C.At w bc) : w.cell? ⟨bc, 1, none⟩ = some (.slice C.aA C.nA C.cA) := cell_of_block h.blk 1 (by simp)
theorem Clim.At.c2 (h : C.At w bc) : w.cell? ⟨bc, 2, none⟩ = some (.slice C.aW C.nW C.cW) := cell_of_block h.blk 2 (by simp)
theorem Clim.At.below (h : C.At w bc) (hb : Below w.heap.size w w') : C.At w' bc := ⟨(hb.block bc h.lt).trans h.blk, h.i.below hb⟩
end

def allB (n : Nat) (p : Nat → Bool) : Bool := (List.range n).all p
theorem allB_t {n : Nat} {p : Nat → Bool} : allB n p = true ↔ ∀ i, i < n → p i = true := by simp [allB]
theorem allB_f {n j : Nat} {p : Nat → Bool} (hj : j < n) (h : p j = false) : allB n p = false := by
  cases e : allB n p with
  | false => rfl
  | true => rw [allB_t.1 e j hj] at h; cases h
/-- an ending of IndexFunc: p: what is not looked for -/
def IxEnd (p : Nat → Bool) (n : Nat) (e : Ending) : Prop := (allB n p = true ∧ e = .returned (.int .i64 (-1))) ∨ ∃ j : Nat, j < n ∧ allB n p = false ∧ e = .returned (.int .i64 j)

def shareB (A B : Nat → Int) (i : Nat) : Bool := spanB (A i) (B i) 0 100000000
/-- a row is as it should be -/
def rowB (wide : Nat) (r : RowD) : Bool := decide (r.n = wide) && allB r.n (shareB r.A r.B)
def climH (C : Clim) : Bool := inB C.days 1 366 && (inB C.nA 1 8 && (decide (C.nW = C.nA) && inB (C.RA 0).n 1 12))
def climB (C : Clim) : Bool := climH C && (allB C.nA (fun i => rowB (C.RA 0).n (C.RA i)) && allB C.nW (fun i => rowB (C.RA 0).n (C.RW i)))

attribute [local go_sem] gw_cell gw_frozen gw_size

set_option maxHeartbeats 1000000 in
theorem notShare (lo hi : Int) (w : World) :
    Calls Try.prog 88 #[.agg #[.int .i64 lo, .int .i64 hi]] w fun e w' => e = .returned (.bool (!spanB lo hi 0 100000000)) ∧ Below w.heap.size w w' := by
  cases h : spanB lo hi 0 100000000
  all_goals
    have H := Lib.hid h; clear h
    go_enter Try.func88, Try.ntmps88
    go_wp2_with fail
    refine (Calls.grown (isSpan_b _ _ _ _ _ H.out)).mono ?_
    rintro e w1 ⟨rfl, x, rfl⟩
    go_wp2_with fail
    go_ret
    exact ⟨rfl, RowKit.Below.gw (below_alloc _ _) x⟩

set_option maxHeartbeats 1000000 in
theorem ixShare (a : Option Addr) (n c : Nat) (A B : Nat → Int) (w : World) (hn : n ≤ 9223372036854775807) (hS : SpansAt w a n A B) :
    Calls Try.prog 95 #[.slice a n c, .func (.func 88) #[] #[]] w fun e w' => IxEnd (shareB A B) n e ∧ Below w.heap.size w w' := by
  have HS := Lib.hid hS; clear hS
  go_enter Try.func95, Try.ntmps95
  go_wp2_with fail
  go_loopw [8] (fun t wr => ∃ k : Nat, k ≤ n ∧ t = .int .i64 k ∧ Hid (∀ i, i < k → shareB A B i = true) ∧ ∃ x, wr = gw w x) (fun t _ => n - (intOf t).toNat)
  case atStart => exact ⟨0, Nat.zero_le _, rfl, Lib.hid (fun i hi => by omega), ⟨#[], w.drawn⟩, by simp [gw]⟩
  case round =>
    obtain ⟨k, hk, rfl, hall, x, rfl⟩ := hrel
    by_cases hlt : k < n
    · rcases HS.out with h0 | ⟨b, off, rfl, lb, hc⟩
      · omega
      obtain ⟨x1, x2⟩ := hc k hlt
      clear hc
      have NS := Lib.hid (notShare (A k) (B k) (gw w x))
      cases hp : shareB A B k with
      | true =>
        have hp' : spanB (A k) (B k) 0 100000000 = true := hp
        rw [hp'] at NS
        have HP := Lib.hid hp; clear hp hp'
        go_wp2_with fail
        refine (Calls.gw_of NS.out).mono ?_
        rintro e w1 ⟨rfl, y, rfl⟩
        go_wp2_with fail
        go_roundw
        case rel => exact ⟨k + 1, by omega, by go_num, Lib.hid (all_succ (P := fun i => shareB A B i = true) hall.out HP.out), y, rfl⟩
        case measure => simp [intOf]; omega
      | false =>
        have hp' : spanB (A k) (B k) 0 100000000 = false := hp
        rw [hp'] at NS
        have HP := Lib.hid hp; clear hp hp'
        go_wp2_with fail
        refine (Calls.gw_of NS.out).mono ?_
        rintro e w1 ⟨rfl, y, rfl⟩
        go_wp2_with fail
        go_ret
        exact ⟨.inr ⟨k, hlt, allB_f hlt HP.out, rfl⟩, below_gw w y⟩
    · obtain rfl : n = k := by omega
      go_wp2_with fail
      go_ret
      exact ⟨.inl ⟨allB_t.2 hall.out, rfl⟩, below_gw w x⟩

set_option maxHeartbeats 1000000 in
theorem hasShare (a : Option Addr) (n c : Nat) (A B : Nat → Int) (w : World) (hn : n ≤ 9223372036854775807) (hS : SpansAt w a n A B) :
    Calls Try.prog 87 #[.slice a n c, .func (.func 88) #[] #[]] w fun e w' => e = .returned (.bool (!allB n (shareB A B))) ∧ Below w.heap.size w w' := by
  have IX := Lib.hid (ixShare a n c A B w hn hS); clear hS
  go_enter Try.func87, Try.ntmps87
  go_wp2_with fail
  refine IX.out.mono ?_
  rintro e w1 ⟨he, hb⟩
  have HB := Lib.hid hb; clear hb
  rcases he with ⟨h, rfl⟩ | ⟨j, hj, h, rfl⟩
  · have H := Lib.hid h; clear h
    go_wp2_with fail
    go_ret
    exact ⟨by rw [H.out]; rfl, HB.out⟩
  · have H := Lib.hid h; clear h
    go_wp2_with fail
    go_ret
    exact ⟨by rw [H.out]; rfl, HB.out⟩
end Go.Proofs.Ytljofnmgddfljaa
