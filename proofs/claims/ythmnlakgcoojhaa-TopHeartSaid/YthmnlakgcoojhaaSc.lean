/- Contracts of all over numbers, over rows of numbers, over parts, with whatever test. No conditions beyond each theorem's own. -/
import Derived.Test.YthmnlakgcoojhaaSa
import Derived.Shelf.Abstract
set_option linter.unusedVariables false
set_option linter.unusedSimpArgs false
set_option linter.unusedSectionVars false
set_option linter.constructorNameAsVariable false
namespace Go.Proofs.Ythmnlakgcoojhaa.L1
open Go.RowKit
open Go.Proofs.Ythmnlakgcoojhaa

attribute [local go_sem] gw_cell gw_frozen gw_size

def allB (n : Nat) (p : Nat → Bool) : Bool := (List.range n).all p
theorem allB_t {n : Nat} {p : Nat → Bool} : allB n p = true ↔ ∀ i, i < n → p i = true := by simp [allB]
theorem allB_f {n j : Nat} {p : Nat → Bool} (hj : j < n) (h : p j = false) : allB n p = false := by
  cases e : allB n p with
  | false => rfl
  | true => rw [allB_t.1 e j hj] at h; cases h
/-- an ending of IndexFunc: p: what is not looked for -/
def IxEnd (p : Nat → Bool) (n : Nat) (e : Ending) : Prop := (allB n p = true ∧ e = .returned (.int .i64 (-1))) ∨ ∃ j : Nat, j < n ∧ allB n p = false ∧ e = .returned (.int .i64 j)

/-- a list of rows of numbers -/
structure Rows where
  a : Option Addr
  n : Nat
  c : Nat
  rA : Nat → Option Addr
  rN : Nat → Nat
  rC : Nat → Nat
  M : Nat → Nat → Int
def Rows.val (r : Rows) : Value := .slice r.a r.n r.c
def Rows.row (r : Rows) (i : Nat) : Value := .slice (r.rA i) (r.rN i) (r.rC i)
/-- where its rows' slices are -/
def CellsAt (w : World) (a : Option Addr) (n : Nat) (V : Nat → Value) : Prop := n = 0 ∨ ∃ b off, a = some ⟨b, off, none⟩ ∧ b < w.heap.size ∧ ∀ i, i < n → w.cell? ⟨b, off + i, none⟩ = some (V i)
theorem CellsAt.below {w w' : World} {a : Option Addr} {n : Nat} {V : Nat → Value} (h : CellsAt w a n V) (hb : Below w.heap.size w w') : CellsAt w' a n V := by
  rcases h with h | ⟨b, off, rfl, hlt, hc⟩
  · exact .inl h
  · exact .inr ⟨b, off, rfl, Nat.lt_of_lt_of_le hlt hb.size, fun i hi => (hb.cell (p := ⟨b, off + i, none⟩) hlt).trans (hc i hi)⟩
theorem IntsAt.cells {w : World} {a : Option Addr} {n : Nat} {L : Nat → Int} (h : IntsAt w a n L) : CellsAt w a n (fun i => .int .i64 (L i)) := h
structure Rows.In (r : Rows) (w : World) : Prop where
  cells : CellsAt w r.a r.n r.row
  rows : ∀ i, i < r.n → IntsAt w (r.rA i) (r.rN i) (r.M i)
theorem Rows.In.below {r : Rows} {w w' : World} (h : r.In w) (hb : Below w.heap.size w w') : r.In w' := ⟨h.cells.below hb, fun i hi => (h.rows i hi).below hb⟩
/-- a part -/
structure Prt where
  al : Int
  ah : Int
  sl : Int
  sh : Int
def Prt.cells (x : Prt) : Array Value := #[.int .i64 x.al, .int .i64 x.ah, .int .i64 x.sl, .int .i64 x.sh]
def Prt.val (x : Prt) : Value := .agg #[.int .i64 x.al, .int .i64 x.ah, .int .i64 x.sl, .int .i64 x.sh]
def PartsAt (w : World) (a : Option Addr) (n : Nat) (P : Nat → Prt) : Prop := n = 0 ∨ ∃ b off, a = some ⟨b, off, none⟩ ∧ b < w.heap.size ∧ ∀ i, i < n → w.cell? ⟨b, off + i * 4, none⟩ = some (.int .i64 (P i).al) ∧ w.cell? ⟨b, off + i * 4 + 1, none⟩ = some (.int .i64 (P i).ah) ∧ w.cell? ⟨b, off + i * 4 + 2, none⟩ = some (.int .i64 (P i).sl) ∧ w.cell? ⟨b, off + i * 4 + 3, none⟩ = some (.int .i64 (P i).sh)
theorem PartsAt.below {w w' : World} {a : Option Addr} {n : Nat} {P : Nat → Prt} (h : PartsAt w a n P) (hb : Below w.heap.size w w') : PartsAt w' a n P := by
  rcases h with h | ⟨b, off, rfl, hlt, hc⟩
  · exact .inl h
  · refine .inr ⟨b, off, rfl, Nat.lt_of_lt_of_le hlt hb.size, fun i hi => ?_⟩
    obtain ⟨h1, h2, h3, h4⟩ := hc i hi
    exact ⟨(hb.cell (p := ⟨b, off + i * 4, none⟩) hlt).trans h1, (hb.cell (p := ⟨b, off + i * 4 + 1, none⟩) hlt).trans h2, (hb.cell (p := ⟨b, off + i * 4 + 2, none⟩) hlt).trans h3, (hb.cell (p := ⟨b, off + i * 4 + 3, none⟩) hlt).trans h4⟩

set_option maxHeartbeats 1000000 in
theorem notP (g : Nat) (lb : Array Value) (eg : ∀ args w, (callFunc g args).run Try.prog w = .ok (.enter g args) w) (b : Bool) (x : Prt) (bb : Nat) (w : World) (hbb : w.cell? ⟨bb, 0, none⟩ = some (.func (.func g) #[] lb))
    (V : ∀ (W : World), Below w.heap.size w W → Calls Try.prog g (#[x.val] ++ lb) W fun e w' => e = .returned (.bool b) ∧ Below W.heap.size W w') :
    Calls Try.prog 38 #[x.val, .pointer (some ⟨bb, 0, none⟩)] w fun e w' => e = .returned (.bool (!b)) ∧ Below w.heap.size w w' := by
  have HV := Lib.hid (V (w.alloc (.cells #[.int .i64 x.al, .int .i64 x.ah, .int .i64 x.sl, .int .i64 x.sh] 41)) (below_alloc _ _)); clear V
  have lbb := World.block_lt_of_cell? w _ hbb
  dsimp only at lbb
  unfold Prt.val at *
  go_enter Try.func38, Try.ntmps38
  go_wp2_with (go_at_fn g; refine HV.out.mono ?_; rintro e w' ⟨rfl, hb⟩)
  go_ret
  exact ⟨by cases b <;> rfl, thru hb (below_alloc _ _)⟩

set_option maxRecDepth 100000 in
set_option maxHeartbeats 1000000 in
theorem ixP (g : Nat) (lb : Array Value) (eg : ∀ args w, (callFunc g args).run Try.prog w = .ok (.enter g args) w) (p : Nat → Bool) (a : Option Addr) (n c : Nat) (P : Nat → Prt) (bb : Nat) (w : World) (hbb : w.cell? ⟨bb, 0, none⟩ = some (.func (.func g) #[] lb)) (hn : n ≤ 9223372036854775807) (hS : PartsAt w a n P)
    (V : ∀ (W : World) (i : Nat), Below w.heap.size w W → i < n → Calls Try.prog g (#[(P i).val] ++ lb) W fun e w' => e = .returned (.bool (p i)) ∧ Below W.heap.size W w') :
    Calls Try.prog 53 #[.slice a n c, .func (.func 38) #[] #[.pointer (some ⟨bb, 0, none⟩)]] w fun e w' => IxEnd p n e ∧ Below w.heap.size w w' := by
  have HS := Lib.hid hS; clear hS
  have HV := Lib.hid V; clear V
  have HB := Lib.hid hbb; clear hbb
  go_enter Try.func53, Try.ntmps53
  go_wp2_with fail
  go_loopw [8] (fun t wr => ∃ k : Nat, k ≤ n ∧ t = .int .i64 k ∧ Hid (∀ i, i < k → p i = true) ∧ ∃ x, wr = gw w x) (fun t _ => n - (intOf t).toNat)
  case atStart => exact ⟨0, Nat.zero_le _, rfl, Lib.hid (fun i hi => by omega), ⟨#[], w.drawn⟩, by simp [gw]⟩
  case round =>
    obtain ⟨k, hk, rfl, hall, x, rfl⟩ := hrel
    by_cases hlt : k < n
    · have NS := Lib.hid (notP g lb eg (p k) (P k) bb (gw w x) ((gw_cell (World.block_lt_of_cell? w _ HB.out)).trans HB.out) (fun W hb => HV.out W k (thru hb (below_gw w x)) hlt))
      rcases HS.out with h0 | ⟨b, off, rfl, lb0, hc⟩
      · omega
      obtain ⟨x1, x2, x3, x4⟩ := hc k hlt
      clear hc
      unfold Prt.val at NS
      cases hp : p k with
      | true =>
        rw [hp] at NS
        have HP := Lib.hid hp; clear hp
        go_wp2_with fail
        refine (Calls.gw_of NS.out).mono ?_
        rintro e w1 ⟨rfl, y, rfl⟩
        go_wp2_with fail
        go_roundw
        case rel => exact ⟨k + 1, by omega, by go_num, Lib.hid (all_succ (P := fun i => p i = true) hall.out HP.out), y, rfl⟩
        case measure => simp [intOf]; omega
      | false =>
        rw [hp] at NS
        have HP := Lib.hid hp; clear hp
        go_wp2_with fail
        refine (Calls.gw_of NS.out).mono ?_
        rintro e w1 ⟨rfl, y, rfl⟩
        go_wp2_with fail
        go_ret
        exact ⟨.inr ⟨k, hlt, allB_f hlt HP.out, rfl⟩, below_gw w y⟩
    · obtain rfl : n = k := by omega
      go_wp2_with fail
      go_ret
      exact ⟨.inl ⟨allB_t.2 hall.out, rfl⟩, below_gw w x⟩

set_option maxHeartbeats 1000000 in
theorem hasP (g : Nat) (lb : Array Value) (eg : ∀ args w, (callFunc g args).run Try.prog w = .ok (.enter g args) w) (p : Nat → Bool) (a : Option Addr) (n c : Nat) (P : Nat → Prt) (bb : Nat) (w : World) (hbb : w.cell? ⟨bb, 0, none⟩ = some (.func (.func g) #[] lb)) (hn : n ≤ 9223372036854775807) (hS : PartsAt w a n P)
    (V : ∀ (W : World) (i : Nat), Below w.heap.size w W → i < n → Calls Try.prog g (#[(P i).val] ++ lb) W fun e w' => e = .returned (.bool (p i)) ∧ Below W.heap.size W w') :
    Calls Try.prog 37 #[.slice a n c, .func (.func 38) #[] #[.pointer (some ⟨bb, 0, none⟩)]] w fun e w' => e = .returned (.bool (!allB n p)) ∧ Below w.heap.size w w' := by
  have IX := Lib.hid (ixP g lb eg p a n c P bb w hbb hn hS V); clear hS V hbb
  go_enter Try.func37, Try.ntmps37
  go_wp2_with fail
  refine IX.out.mono ?_
  rintro e w1 ⟨he, hb⟩
  have HB := Lib.hid hb; clear hb
  rcases he with ⟨h, rfl⟩ | ⟨j, hj, h, rfl⟩
  · have H := Lib.hid h; clear h
    go_wp2_with fail
    go_ret
    exact ⟨by rw [H.out]; rfl, HB.out⟩
  · have H := Lib.hid h; clear h
    go_wp2_with fail
    go_ret
    exact ⟨by rw [H.out]; rfl, HB.out⟩

set_option maxHeartbeats 1000000 in
theorem allP (g : Nat) (lb : Array Value) (eg : ∀ args w, (callFunc g args).run Try.prog w = .ok (.enter g args) w) (p : Nat → Bool) (a : Option Addr) (n c : Nat) (P : Nat → Prt) (w : World) (hn : n ≤ 9223372036854775807) (hS : PartsAt w a n P)
    (V : ∀ (W : World) (i : Nat), Below w.heap.size w W → i < n → Calls Try.prog g (#[(P i).val] ++ lb) W fun e w' => e = .returned (.bool (p i)) ∧ Below W.heap.size W w') :
    Calls Try.prog 18 #[.slice a n c, .func (.func g) #[] lb] w fun e w' => e = .returned (.bool (allB n p)) ∧ Below w.heap.size w w' := by
  have hmf : ∀ (fn : Fn) (first cap : Array Value) (w : World), (Instr.makeFunc fn first cap).run Try.prog w = .ok (.func fn first cap) w := fun _ _ _ _ => rfl
  obtain ⟨W1, hW1⟩ : ∃ W1, w.alloc (.cells #[.func (.func g) #[] lb] 74) = W1 := ⟨_, rfl⟩
  have hBc : Below w.heap.size w W1 := by rw [← hW1]; exact below_alloc _ _
  have zc0 : W1.heap[w.heap.size]? = some (.cells #[.func (.func g) #[] lb] 74 (0, 0)) := by rw [← hW1]; exact alloc_at rfl
  have c00 : W1.cell? ⟨w.heap.size, 0, none⟩ = some (.func (.func g) #[] lb) := cell_of_block zc0 0 (by simp)
  have lc0 := (Array.getElem?_eq_some_iff.1 zc0).1
  clear zc0
  have HBc := Lib.hid hBc; clear hBc
  have HWc := Lib.hid hW1; clear hW1
  have HA := Lib.hid (hasP g lb eg p a n c P w.heap.size W1 c00 hn (hS.below HBc.out) (fun W i hb hi => V W i (thru hb HBc.out) hi)); clear hS V
  go_enter Try.func18, Try.ntmps18
  go_upto_region 1 with (fail)
  rw [HWc.out]
  go_wp2_with fail
  refine HA.out.mono ?_
  rintro e w1 ⟨rfl, hb⟩
  have HB := Lib.hid hb; clear hb
  go_wp2_with fail
  go_ret
  exact ⟨by cases allB n p <;> rfl, thru HB.out HBc.out⟩

end Go.Proofs.Ythmnlakgcoojhaa.L1
