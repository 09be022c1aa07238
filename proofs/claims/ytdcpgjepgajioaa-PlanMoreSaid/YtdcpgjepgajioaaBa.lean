/- Contracts of the tests of numbers, of upTo, of all over numbers and over rows, with whatever test. No conditions beyond each theorem's own. -/
import Derived.Test.YtdcpgjepgajioaaProg
import Derived.Test.YtdcpgjepgajioaaPa
import Derived.Test.YtdcpgjepgajioaaAl
import Derived.Test.YtdcpgjepgajioaaAo
import Derived.Shelf.Abstract
import Derived.Lib.Hide
set_option linter.unusedVariables false
set_option linter.unusedSimpArgs false
set_option linter.unusedSectionVars false
set_option linter.constructorNameAsVariable false
namespace Go.Proofs.Ytdcpgjepgajioaa
open Go.RowKit

attribute [local go_sem] gw_cell gw_frozen gw_size

theorem infoInt : (Try.prog.info? 3).map (fun i => (i.zero, i.size, i.bytes)) = some (some (.int .i64 0), 1, 8) := by kernel_rfl
theorem allB_or_inB_t {x lo hi : Int} (h : inB x lo hi = true) : lo ≤ x ∧ x ≤ hi := inB_t.1 h
def allB (n : Nat) (p : Nat → Bool) : Bool := (List.range n).all p
theorem allB_t {n : Nat} {p : Nat → Bool} : allB n p = true ↔ ∀ i, i < n → p i = true := by simp [allB]
theorem allB_f {n j : Nat} {p : Nat → Bool} (hj : j < n) (h : p j = false) : allB n p = false := by
  cases e : allB n p with
  | false => rfl
  | true => rw [allB_t.1 e j hj] at h; cases h
/-- an ending of IndexFunc: p: what is not looked for -/
def IxEnd (p : Nat → Bool) (n : Nat) (e : Ending) : Prop := (allB n p = true ∧ e = .returned (.int .i64 (-1))) ∨ ∃ j : Nat, j < n ∧ allB n p = false ∧ e = .returned (.int .i64 j)
/-- where some values are, one cell each -/
def CellsAt (w : World) (a : Option Addr) (n : Nat) (V : Nat → Value) : Prop := n = 0 ∨ ∃ b off, a = some ⟨b, off, none⟩ ∧ b < w.heap.size ∧ ∀ i, i < n → w.cell? ⟨b, off + i, none⟩ = some (V i)
theorem CellsAt.below {w w' : World} {a : Option Addr} {n : Nat} {V : Nat → Value} (h : CellsAt w a n V) (hb : Below w.heap.size w w') : CellsAt w' a n V := by
  rcases h with h | ⟨b, off, rfl, hlt, hc⟩
  · exact .inl h
  · exact .inr ⟨b, off, rfl, Nat.lt_of_lt_of_le hlt hb.size, fun i hi => (hb.cell (p := ⟨b, off + i, none⟩) hlt).trans (hc i hi)⟩
theorem IntsAt.cells {w : World} {a : Option Addr} {n : Nat} {L : Nat → Int} (h : IntsAt w a n L) : CellsAt w a n (fun i => .int .i64 (L i)) := h

set_option maxHeartbeats 400000 in
theorem within_any (n lo hi : Int) (w : World) :
    Calls Try.prog 33 #[.int .i64 n, .int .i64 lo, .int .i64 hi] w fun e w' => e = .returned (.bool (inB n lo hi)) ∧ w = w' := by
  by_cases h1 : lo ≤ n
  · by_cases h2 : n ≤ hi
    · have hb : inB n lo hi = true := by simp [inB, h1, h2]
      rw [hb]; clear hb
      go_enter Try.func33, Try.ntmps33
      go_wp2
      go_ret
      exact ⟨rfl, rfl⟩
    · have hb : inB n lo hi = false := by simp [inB, h2]
      rw [hb]; clear hb
      go_enter Try.func33, Try.ntmps33
      go_wp2
      go_ret
      exact ⟨rfl, rfl⟩
  · have hb : inB n lo hi = false := by simp [inB, h1]
    rw [hb]; clear hb
    go_enter Try.func33, Try.ntmps33
    go_wp2
    go_ret
    exact ⟨rfl, rfl⟩

set_option maxHeartbeats 400000 in
theorem rin_any (n lo hi : Int) (w : World) :
    Calls Try.prog 38 #[.int .i64 n, .int .i64 lo, .int .i64 hi] w fun e w' => e = .returned (.bool (inB n lo hi)) ∧ w = w' := by
  by_cases h1 : lo ≤ n
  · by_cases h2 : n ≤ hi
    · have hb : inB n lo hi = true := by simp [inB, h1, h2]
      rw [hb]; clear hb
      go_enter Try.func38, Try.ntmps38
      go_wp2
      go_ret
      exact ⟨rfl, rfl⟩
    · have hb : inB n lo hi = false := by simp [inB, h2]
      rw [hb]; clear hb
      go_enter Try.func38, Try.ntmps38
      go_wp2
      go_ret
      exact ⟨rfl, rfl⟩
  · have hb : inB n lo hi = false := by simp [inB, h1]
    rw [hb]; clear hb
    go_enter Try.func38, Try.ntmps38
    go_wp2
    go_ret
    exact ⟨rfl, rfl⟩

theorem within_b {b : Bool} (n lo hi : Int) (w : World) (h : inB n lo hi = b) :
    Calls Try.prog 33 #[.int .i64 n, .int .i64 lo, .int .i64 hi] w fun e w' => e = .returned (.bool b) ∧ w = w' := h ▸ within_any n lo hi w
theorem rin_b {b : Bool} (n lo hi : Int) (w : World) (h : inB n lo hi = b) :
    Calls Try.prog 38 #[.int .i64 n, .int .i64 lo, .int .i64 hi] w fun e w' => e = .returned (.bool b) ∧ w = w' := h ▸ rin_any n lo hi w

set_option maxHeartbeats 400000 in
theorem upTo1_any (x most : Int) (bb : Nat) (w : World) (hb : w.cell? ⟨bb, 0, none⟩ = some (.int .i64 most)) :
    Calls Try.prog 66 #[.int .i64 x, .pointer (some ⟨bb, 0, none⟩)] w fun e w' => e = .returned (.bool (inB x 0 most)) ∧ w = w' := by
  go_enter Try.func66, Try.ntmps66
  go_wp2_with (go_at_call 33; refine (within_any _ _ _ _).mono ?_; rintro e w' ⟨rfl, rfl⟩)
  go_ret
  exact ⟨rfl, rfl⟩

set_option maxHeartbeats 400000 in
theorem upTo_any (most : Int) (w : World) :
    Calls Try.prog 48 #[.int .i64 most] w fun e w' => ∃ bb, e = .returned (.func (.func 66) #[] #[.pointer (some ⟨bb, 0, none⟩)]) ∧ w'.heap[bb]? = some (.cells #[.int .i64 most] 3 (0, 0)) ∧ Below w.heap.size w w' := by
  have hmf : ∀ (fn : Fn) (first cap : Array Value) (w : World), (Instr.makeFunc fn first cap).run Try.prog w = .ok (.func fn first cap) w := fun _ _ _ _ => rfl
  go_enter Try.func48, Try.ntmps48
  go_wp2_with fail
  go_ret
  exact ⟨_, rfl, alloc_at rfl, below_alloc _ _⟩

set_option maxHeartbeats 1000000 in
theorem notI (g : Nat) (lb : Array Value) (eg : ∀ args w, (callFunc g args).run Try.prog w = .ok (.enter g args) w) (b : Bool) (x : Int) (bb : Nat) (w : World) (hbb : w.cell? ⟨bb, 0, none⟩ = some (.func (.func g) #[] lb))
    (V : ∀ (W : World), Below w.heap.size w W → Calls Try.prog g (#[(.int .i64 x)] ++ lb) W fun e w' => e = .returned (.bool b) ∧ Below W.heap.size W w') :
    Calls Try.prog 65 #[(.int .i64 x), .pointer (some ⟨bb, 0, none⟩)] w fun e w' => e = .returned (.bool (!b)) ∧ Below w.heap.size w w' := by
  have HV := Lib.hid (V w (Below.refl _ _)); clear V
  go_enter Try.func65, Try.ntmps65
  go_wp2_with (go_at_fn g; refine HV.out.mono ?_; rintro e w' ⟨rfl, hb⟩)
  go_ret
  exact ⟨by cases b <;> rfl, hb⟩

set_option maxRecDepth 100000 in
set_option maxHeartbeats 1000000 in
theorem ixI (g : Nat) (lb : Array Value) (eg : ∀ args w, (callFunc g args).run Try.prog w = .ok (.enter g args) w) (p : Nat → Bool) (a : Option Addr) (n c : Nat) (L : Nat → Int) (bb : Nat) (w : World) (hbb : w.cell? ⟨bb, 0, none⟩ = some (.func (.func g) #[] lb)) (hn : n ≤ 9223372036854775807) (hS : CellsAt w a n fun i => .int .i64 (L i))
    (V : ∀ (W : World) (i : Nat), Below w.heap.size w W → i < n → Calls Try.prog g (#[(.int .i64 (L i))] ++ lb) W fun e w' => e = .returned (.bool (p i)) ∧ Below W.heap.size W w') :
    Calls Try.prog 74 #[.slice a n c, .func (.func 65) #[] #[.pointer (some ⟨bb, 0, none⟩)]] w fun e w' => IxEnd p n e ∧ Below w.heap.size w w' := by
  have HS := Lib.hid hS; clear hS
  have HV := Lib.hid V; clear V
  have HB := Lib.hid hbb; clear hbb
  go_enter Try.func74, Try.ntmps74
  go_wp2_with fail
  go_loopw [8] (fun t wr => ∃ k : Nat, k ≤ n ∧ t = .int .i64 k ∧ Hid (∀ i, i < k → p i = true) ∧ ∃ x, wr = gw w x) (fun t _ => n - (intOf t).toNat)
  case atStart => exact ⟨0, Nat.zero_le _, rfl, Lib.hid (fun i hi => by omega), ⟨#[], w.drawn⟩, by simp [gw]⟩
  case round =>
    obtain ⟨k, hk, rfl, hall, x, rfl⟩ := hrel
    by_cases hlt : k < n
    · have NS := Lib.hid (notI g lb eg (p k) (L k) bb (gw w x) ((gw_cell (World.block_lt_of_cell? w _ HB.out)).trans HB.out) (fun W hb => HV.out W k (thru hb (below_gw w x)) hlt))
      rcases HS.out with h0 | ⟨b, off, rfl, lb0, hc⟩
      · omega
      have x1 := hc k hlt
      dsimp only at x1
      clear hc
      cases hp : p k with
      | true =>
        rw [hp] at NS
        have HP := Lib.hid hp; clear hp
        go_wp2_with fail
        refine (Calls.gw_of NS.out).mono ?_
        rintro e w1 ⟨rfl, y, rfl⟩
        go_wp2_with fail
        go_roundw
        case rel => exact ⟨k + 1, by omega, by go_num, Lib.hid (all_succ (P := fun i => p i = true) hall.out HP.out), y, rfl⟩
        case measure => simp [intOf]; omega
      | false =>
        rw [hp] at NS
        have HP := Lib.hid hp; clear hp
        go_wp2_with fail
        refine (Calls.gw_of NS.out).mono ?_
        rintro e w1 ⟨rfl, y, rfl⟩
        go_wp2_with fail
        go_ret
        exact ⟨.inr ⟨k, hlt, allB_f hlt HP.out, rfl⟩, below_gw w y⟩
    · obtain rfl : n = k := by omega
      go_wp2_with fail
      go_ret
      exact ⟨.inl ⟨allB_t.2 hall.out, rfl⟩, below_gw w x⟩

set_option maxHeartbeats 1000000 in
theorem hasI (g : Nat) (lb : Array Value) (eg : ∀ args w, (callFunc g args).run Try.prog w = .ok (.enter g args) w) (p : Nat → Bool) (a : Option Addr) (n c : Nat) (L : Nat → Int) (bb : Nat) (w : World) (hbb : w.cell? ⟨bb, 0, none⟩ = some (.func (.func g) #[] lb)) (hn : n ≤ 9223372036854775807) (hS : CellsAt w a n fun i => .int .i64 (L i))
    (V : ∀ (W : World) (i : Nat), Below w.heap.size w W → i < n → Calls Try.prog g (#[(.int .i64 (L i))] ++ lb) W fun e w' => e = .returned (.bool (p i)) ∧ Below W.heap.size W w') :
    Calls Try.prog 64 #[.slice a n c, .func (.func 65) #[] #[.pointer (some ⟨bb, 0, none⟩)]] w fun e w' => e = .returned (.bool (!allB n p)) ∧ Below w.heap.size w w' := by
  have IX := Lib.hid (ixI g lb eg p a n c L bb w hbb hn hS V); clear hS V hbb
  go_enter Try.func64, Try.ntmps64
  go_wp2_with fail
  refine IX.out.mono ?_
  rintro e w1 ⟨he, hb⟩
  have HB := Lib.hid hb; clear hb
  rcases he with ⟨h, rfl⟩ | ⟨j, hj, h, rfl⟩
  · have H := Lib.hid h; clear h
    go_wp2_with fail
    go_ret
    exact ⟨by rw [H.out]; rfl, HB.out⟩
  · have H := Lib.hid h; clear h
    go_wp2_with fail
    go_ret
    exact ⟨by rw [H.out]; rfl, HB.out⟩

set_option maxHeartbeats 1000000 in
theorem allI (g : Nat) (lb : Array Value) (eg : ∀ args w, (callFunc g args).run Try.prog w = .ok (.enter g args) w) (p : Nat → Bool) (a : Option Addr) (n c : Nat) (L : Nat → Int) (w : World) (hn : n ≤ 9223372036854775807) (hS : CellsAt w a n fun i => .int .i64 (L i))
    (V : ∀ (W : World) (i : Nat), Below w.heap.size w W → i < n → Calls Try.prog g (#[(.int .i64 (L i))] ++ lb) W fun e w' => e = .returned (.bool (p i)) ∧ Below W.heap.size W w') :
    Calls Try.prog 47 #[.slice a n c, .func (.func g) #[] lb] w fun e w' => e = .returned (.bool (allB n p)) ∧ Below w.heap.size w w' := by
  have hmf : ∀ (fn : Fn) (first cap : Array Value) (w : World), (Instr.makeFunc fn first cap).run Try.prog w = .ok (.func fn first cap) w := fun _ _ _ _ => rfl
  obtain ⟨W1, hW1⟩ : ∃ W1, w.alloc (.cells #[.func (.func g) #[] lb] 72) = W1 := ⟨_, rfl⟩
  have hBc : Below w.heap.size w W1 := by rw [← hW1]; exact below_alloc _ _
  have zc0 : W1.heap[w.heap.size]? = some (.cells #[.func (.func g) #[] lb] 72 (0, 0)) := by rw [← hW1]; exact alloc_at rfl
  have c00 : W1.cell? ⟨w.heap.size, 0, none⟩ = some (.func (.func g) #[] lb) := cell_of_block zc0 0 (by simp)
  have lc0 := (Array.getElem?_eq_some_iff.1 zc0).1
  clear zc0
  have HBc := Lib.hid hBc; clear hBc
  have HWc := Lib.hid hW1; clear hW1
  have HA := Lib.hid (hasI g lb eg p a n c L w.heap.size W1 c00 hn (hS.below HBc.out) (fun W i hb hi => V W i (thru hb HBc.out) hi)); clear hS V
  go_enter Try.func47, Try.ntmps47
  go_upto_region 1 with (fail)
  rw [HWc.out]
  go_wp2_with fail
  refine HA.out.mono ?_
  rintro e w1 ⟨rfl, hb⟩
  have HB := Lib.hid hb; clear hb
  go_wp2_with fail
  go_ret
  exact ⟨by cases allB n p <;> rfl, thru HB.out HBc.out⟩

set_option maxHeartbeats 1000000 in
theorem notR (g : Nat) (lb : Array Value) (eg : ∀ args w, (callFunc g args).run Try.prog w = .ok (.enter g args) w) (b : Bool) (xa : Option Addr) (xn xc : Nat) (bb : Nat) (w : World) (hbb : w.cell? ⟨bb, 0, none⟩ = some (.func (.func g) #[] lb))
    (V : ∀ (W : World), Below w.heap.size w W → Calls Try.prog g (#[(.slice xa xn xc)] ++ lb) W fun e w' => e = .returned (.bool b) ∧ Below W.heap.size W w') :
    Calls Try.prog 70 #[(.slice xa xn xc), .pointer (some ⟨bb, 0, none⟩)] w fun e w' => e = .returned (.bool (!b)) ∧ Below w.heap.size w w' := by
  have HV := Lib.hid (V w (Below.refl _ _)); clear V
  go_enter Try.func70, Try.ntmps70
  go_wp2_with (go_at_fn g; refine HV.out.mono ?_; rintro e w' ⟨rfl, hb⟩)
  go_ret
  exact ⟨by cases b <;> rfl, hb⟩

set_option maxRecDepth 100000 in
set_option maxHeartbeats 1000000 in
theorem ixR (g : Nat) (lb : Array Value) (eg : ∀ args w, (callFunc g args).run Try.prog w = .ok (.enter g args) w) (p : Nat → Bool) (a : Option Addr) (n c : Nat) (A : Nat → Option Addr) (N C : Nat → Nat) (bb : Nat) (w : World) (hbb : w.cell? ⟨bb, 0, none⟩ = some (.func (.func g) #[] lb)) (hn : n ≤ 9223372036854775807) (hS : CellsAt w a n fun i => .slice (A i) (N i) (C i))
    (V : ∀ (W : World) (i : Nat), Below w.heap.size w W → i < n → Calls Try.prog g (#[(.slice (A i) (N i) (C i))] ++ lb) W fun e w' => e = .returned (.bool (p i)) ∧ Below W.heap.size W w') :
    Calls Try.prog 76 #[.slice a n c, .func (.func 70) #[] #[.pointer (some ⟨bb, 0, none⟩)]] w fun e w' => IxEnd p n e ∧ Below w.heap.size w w' := by
  have HS := Lib.hid hS; clear hS
  have HV := Lib.hid V; clear V
  have HB := Lib.hid hbb; clear hbb
  go_enter Try.func76, Try.ntmps76
  go_wp2_with fail
  go_loopw [8] (fun t wr => ∃ k : Nat, k ≤ n ∧ t = .int .i64 k ∧ Hid (∀ i, i < k → p i = true) ∧ ∃ x, wr = gw w x) (fun t _ => n - (intOf t).toNat)
  case atStart => exact ⟨0, Nat.zero_le _, rfl, Lib.hid (fun i hi => by omega), ⟨#[], w.drawn⟩, by simp [gw]⟩
  case round =>
    obtain ⟨k, hk, rfl, hall, x, rfl⟩ := hrel
    by_cases hlt : k < n
    · have NS := Lib.hid (notR g lb eg (p k) (A k) (N k) (C k) bb (gw w x) ((gw_cell (World.block_lt_of_cell? w _ HB.out)).trans HB.out) (fun W hb => HV.out W k (thru hb (below_gw w x)) hlt))
      rcases HS.out with h0 | ⟨b, off, rfl, lb0, hc⟩
      · omega
      have x1 := hc k hlt
      dsimp only at x1
      clear hc
      cases hp : p k with
      | true =>
        rw [hp] at NS
        have HP := Lib.hid hp; clear hp
        go_wp2_with fail
        refine (Calls.gw_of NS.out).mono ?_
        rintro e w1 ⟨rfl, y, rfl⟩
        go_wp2_with fail
        go_roundw
        case rel => exact ⟨k + 1, by omega, by go_num, Lib.hid (all_succ (P := fun i => p i = true) hall.out HP.out), y, rfl⟩
        case measure => simp [intOf]; omega
      | false =>
        rw [hp] at NS
        have HP := Lib.hid hp; clear hp
        go_wp2_with fail
        refine (Calls.gw_of NS.out).mono ?_
        rintro e w1 ⟨rfl, y, rfl⟩
        go_wp2_with fail
        go_ret
        exact ⟨.inr ⟨k, hlt, allB_f hlt HP.out, rfl⟩, below_gw w y⟩
    · obtain rfl : n = k := by omega
      go_wp2_with fail
      go_ret
      exact ⟨.inl ⟨allB_t.2 hall.out, rfl⟩, below_gw w x⟩

set_option maxHeartbeats 1000000 in
theorem hasR (g : Nat) (lb : Array Value) (eg : ∀ args w, (callFunc g args).run Try.prog w = .ok (.enter g args) w) (p : Nat → Bool) (a : Option Addr) (n c : Nat) (A : Nat → Option Addr) (N C : Nat → Nat) (bb : Nat) (w : World) (hbb : w.cell? ⟨bb, 0, none⟩ = some (.func (.func g) #[] lb)) (hn : n ≤ 9223372036854775807) (hS : CellsAt w a n fun i => .slice (A i) (N i) (C i))
    (V : ∀ (W : World) (i : Nat), Below w.heap.size w W → i < n → Calls Try.prog g (#[(.slice (A i) (N i) (C i))] ++ lb) W fun e w' => e = .returned (.bool (p i)) ∧ Below W.heap.size W w') :
    Calls Try.prog 69 #[.slice a n c, .func (.func 70) #[] #[.pointer (some ⟨bb, 0, none⟩)]] w fun e w' => e = .returned (.bool (!allB n p)) ∧ Below w.heap.size w w' := by
  have IX := Lib.hid (ixR g lb eg p a n c A N C bb w hbb hn hS V); clear hS V hbb
  go_enter Try.func69, Try.ntmps69
  go_wp2_with fail
  refine IX.out.mono ?_
  rintro e w1 ⟨he, hb⟩
  have HB := Lib.hid hb; clear hb
  rcases he with ⟨h, rfl⟩ | ⟨j, hj, h, rfl⟩
  · have H := Lib.hid h; clear h
    go_wp2_with fail
    go_ret
    exact ⟨by rw [H.out]; rfl, HB.out⟩
  · have H := Lib.hid h; clear h
    go_wp2_with fail
    go_ret
    exact ⟨by rw [H.out]; rfl, HB.out⟩

set_option maxHeartbeats 1000000 in
theorem allR (g : Nat) (lb : Array Value) (eg : ∀ args w, (callFunc g args).run Try.prog w = .ok (.enter g args) w) (p : Nat → Bool) (a : Option Addr) (n c : Nat) (A : Nat → Option Addr) (N C : Nat → Nat) (w : World) (hn : n ≤ 9223372036854775807) (hS : CellsAt w a n fun i => .slice (A i) (N i) (C i))
    (V : ∀ (W : World) (i : Nat), Below w.heap.size w W → i < n → Calls Try.prog g (#[(.slice (A i) (N i) (C i))] ++ lb) W fun e w' => e = .returned (.bool (p i)) ∧ Below W.heap.size W w') :
    Calls Try.prog 51 #[.slice a n c, .func (.func g) #[] lb] w fun e w' => e = .returned (.bool (allB n p)) ∧ Below w.heap.size w w' := by
  have hmf : ∀ (fn : Fn) (first cap : Array Value) (w : World), (Instr.makeFunc fn first cap).run Try.prog w = .ok (.func fn first cap) w := fun _ _ _ _ => rfl
  obtain ⟨W1, hW1⟩ : ∃ W1, w.alloc (.cells #[.func (.func g) #[] lb] 85) = W1 := ⟨_, rfl⟩
  have hBc : Below w.heap.size w W1 := by rw [← hW1]; exact below_alloc _ _
  have zc0 : W1.heap[w.heap.size]? = some (.cells #[.func (.func g) #[] lb] 85 (0, 0)) := by rw [← hW1]; exact alloc_at rfl
  have c00 : W1.cell? ⟨w.heap.size, 0, none⟩ = some (.func (.func g) #[] lb) := cell_of_block zc0 0 (by simp)
  have lc0 := (Array.getElem?_eq_some_iff.1 zc0).1
  clear zc0
  have HBc := Lib.hid hBc; clear hBc
  have HWc := Lib.hid hW1; clear hW1
  have HA := Lib.hid (hasR g lb eg p a n c A N C w.heap.size W1 c00 hn (hS.below HBc.out) (fun W i hb hi => V W i (thru hb HBc.out) hi)); clear hS V
  go_enter Try.func51, Try.ntmps51
  go_upto_region 1 with (fail)
  rw [HWc.out]
  go_wp2_with fail
  refine HA.out.mono ?_
  rintro e w1 ⟨rfl, hb⟩
  have HB := Lib.hid hb; clear hb
  go_wp2_with fail
  go_ret
  exact ⟨by cases allB n p <;> rfl, thru HB.out HBc.out⟩

set_option maxHeartbeats 1000000 in
theorem notS (g : Nat) (lb : Array Value) (eg : ∀ args w, (callFunc g args).run Try.prog w = .ok (.enter g args) w) (b : Bool) (xa : Option Addr) (xn xc : Nat) (bb : Nat) (w : World) (hbb : w.cell? ⟨bb, 0, none⟩ = some (.func (.func g) #[] lb))
    (V : ∀ (W : World), Below w.heap.size w W → Calls Try.prog g (#[(.slice xa xn xc)] ++ lb) W fun e w' => e = .returned (.bool b) ∧ Below W.heap.size W w') :
    Calls Try.prog 68 #[(.slice xa xn xc), .pointer (some ⟨bb, 0, none⟩)] w fun e w' => e = .returned (.bool (!b)) ∧ Below w.heap.size w w' := by
  have HV := Lib.hid (V w (Below.refl _ _)); clear V
  go_enter Try.func68, Try.ntmps68
  go_wp2_with (go_at_fn g; refine HV.out.mono ?_; rintro e w' ⟨rfl, hb⟩)
  go_ret
  exact ⟨by cases b <;> rfl, hb⟩

set_option maxRecDepth 100000 in
set_option maxHeartbeats 1000000 in
theorem ixS (g : Nat) (lb : Array Value) (eg : ∀ args w, (callFunc g args).run Try.prog w = .ok (.enter g args) w) (p : Nat → Bool) (a : Option Addr) (n c : Nat) (A : Nat → Option Addr) (N C : Nat → Nat) (bb : Nat) (w : World) (hbb : w.cell? ⟨bb, 0, none⟩ = some (.func (.func g) #[] lb)) (hn : n ≤ 9223372036854775807) (hS : CellsAt w a n fun i => .slice (A i) (N i) (C i))
    (V : ∀ (W : World) (i : Nat), Below w.heap.size w W → i < n → Calls Try.prog g (#[(.slice (A i) (N i) (C i))] ++ lb) W fun e w' => e = .returned (.bool (p i)) ∧ Below W.heap.size W w') :
    Calls Try.prog 75 #[.slice a n c, .func (.func 68) #[] #[.pointer (some ⟨bb, 0, none⟩)]] w fun e w' => IxEnd p n e ∧ Below w.heap.size w w' := by
  have HS := Lib.hid hS; clear hS
  have HV := Lib.hid V; clear V
  have HB := Lib.hid hbb; clear hbb
  go_enter Try.func75, Try.ntmps75
  go_wp2_with fail
  go_loopw [8] (fun t wr => ∃ k : Nat, k ≤ n ∧ t = .int .i64 k ∧ Hid (∀ i, i < k → p i = true) ∧ ∃ x, wr = gw w x) (fun t _ => n - (intOf t).toNat)
  case atStart => exact ⟨0, Nat.zero_le _, rfl, Lib.hid (fun i hi => by omega), ⟨#[], w.drawn⟩, by simp [gw]⟩
  case round =>
    obtain ⟨k, hk, rfl, hall, x, rfl⟩ := hrel
    by_cases hlt : k < n
    · have NS := Lib.hid (notS g lb eg (p k) (A k) (N k) (C k) bb (gw w x) ((gw_cell (World.block_lt_of_cell? w _ HB.out)).trans HB.out) (fun W hb => HV.out W k (thru hb (below_gw w x)) hlt))
      rcases HS.out with h0 | ⟨b, off, rfl, lb0, hc⟩
      · omega
      have x1 := hc k hlt
      dsimp only at x1
      clear hc
      cases hp : p k with
      | true =>
        rw [hp] at NS
        have HP := Lib.hid hp; clear hp
        go_wp2_with fail
        refine (Calls.gw_of NS.out).mono ?_
        rintro e w1 ⟨rfl, y, rfl⟩
        go_wp2_with fail
        go_roundw
        case rel => exact ⟨k + 1, by omega, by go_num, Lib.hid (all_succ (P := fun i => p i = true) hall.out HP.out), y, rfl⟩
        case measure => simp [intOf]; omega
      | false =>
        rw [hp] at NS
        have HP := Lib.hid hp; clear hp
        go_wp2_with fail
        refine (Calls.gw_of NS.out).mono ?_
        rintro e w1 ⟨rfl, y, rfl⟩
        go_wp2_with fail
        go_ret
        exact ⟨.inr ⟨k, hlt, allB_f hlt HP.out, rfl⟩, below_gw w y⟩
    · obtain rfl : n = k := by omega
      go_wp2_with fail
      go_ret
      exact ⟨.inl ⟨allB_t.2 hall.out, rfl⟩, below_gw w x⟩

set_option maxHeartbeats 1000000 in
theorem hasS (g : Nat) (lb : Array Value) (eg : ∀ args w, (callFunc g args).run Try.prog w = .ok (.enter g args) w) (p : Nat → Bool) (a : Option Addr) (n c : Nat) (A : Nat → Option Addr) (N C : Nat → Nat) (bb : Nat) (w : World) (hbb : w.cell? ⟨bb, 0, none⟩ = some (.func (.func g) #[] lb)) (hn : n ≤ 9223372036854775807) (hS : CellsAt w a n fun i => .slice (A i) (N i) (C i))
    (V : ∀ (W : World) (i : Nat), Below w.heap.size w W → i < n → Calls Try.prog g (#[(.slice (A i) (N i) (C i))] ++ lb) W fun e w' => e = .returned (.bool (p i)) ∧ Below W.heap.size W w') :
    Calls Try.prog 67 #[.slice a n c, .func (.func 68) #[] #[.pointer (some ⟨bb, 0, none⟩)]] w fun e w' => e = .returned (.bool (!allB n p)) ∧ Below w.heap.size w w' := by
  have IX := Lib.hid (ixS g lb eg p a n c A N C bb w hbb hn hS V); clear hS V hbb
  go_enter Try.func67, Try.ntmps67
  go_wp2_with fail
  refine IX.out.mono ?_
  rintro e w1 ⟨he, hb⟩
  have HB := Lib.hid hb; clear hb
  rcases he with ⟨h, rfl⟩ | ⟨j, hj, h, rfl⟩
  · have H := Lib.hid h; clear h
    go_wp2_with fail
    go_ret
    exact ⟨by rw [H.out]; rfl, HB.out⟩
  · have H := Lib.hid h; clear h
    go_wp2_with fail
    go_ret
    exact ⟨by rw [H.out]; rfl, HB.out⟩

set_option maxHeartbeats 1000000 in
theorem allS (g : Nat) (lb : Array Value) (eg : ∀ args w, (callFunc g args).run Try.prog w = .ok (.enter g args) w) (p : Nat → Bool) (a : Option Addr) (n c : Nat) (A : Nat → Option Addr) (N C : Nat → Nat) (w : World) (hn : n ≤ 9223372036854775807) (hS : CellsAt w a n fun i => .slice (A i) (N i) (C i))
    (V : ∀ (W : World) (i : Nat), Below w.heap.size w W → i < n → Calls Try.prog g (#[(.slice (A i) (N i) (C i))] ++ lb) W fun e w' => e = .returned (.bool (p i)) ∧ Below W.heap.size W w') :
    Calls Try.prog 49 #[.slice a n c, .func (.func g) #[] lb] w fun e w' => e = .returned (.bool (allB n p)) ∧ Below w.heap.size w w' := by
  have hmf : ∀ (fn : Fn) (first cap : Array Value) (w : World), (Instr.makeFunc fn first cap).run Try.prog w = .ok (.func fn first cap) w := fun _ _ _ _ => rfl
  obtain ⟨W1, hW1⟩ : ∃ W1, w.alloc (.cells #[.func (.func g) #[] lb] 86) = W1 := ⟨_, rfl⟩
  have hBc : Below w.heap.size w W1 := by rw [← hW1]; exact below_alloc _ _
  have zc0 : W1.heap[w.heap.size]? = some (.cells #[.func (.func g) #[] lb] 86 (0, 0)) := by rw [← hW1]; exact alloc_at rfl
  have c00 : W1.cell? ⟨w.heap.size, 0, none⟩ = some (.func (.func g) #[] lb) := cell_of_block zc0 0 (by simp)
  have lc0 := (Array.getElem?_eq_some_iff.1 zc0).1
  clear zc0
  have HBc := Lib.hid hBc; clear hBc
  have HWc := Lib.hid hW1; clear hW1
  have HA := Lib.hid (hasS g lb eg p a n c A N C w.heap.size W1 c00 hn (hS.below HBc.out) (fun W i hb hi => V W i (thru hb HBc.out) hi)); clear hS V
  go_enter Try.func49, Try.ntmps49
  go_upto_region 1 with (fail)
  rw [HWc.out]
  go_wp2_with fail
  refine HA.out.mono ?_
  rintro e w1 ⟨rfl, hb⟩
  have HB := Lib.hid hb; clear hb
  go_wp2_with fail
  go_ret
  exact ⟨by cases allB n p <;> rfl, thru HB.out HBc.out⟩

/-- all numbers of a list are from 0 to another one -/
theorem allUp (a : Option Addr) (n c : Nat) (L : Nat → Int) (most : Int) (bb : Nat) (w : World) (hn : n ≤ 9223372036854775807) (hS : IntsAt w a n L) (hb : w.heap[bb]? = some (.cells #[.int .i64 most] 3 (0, 0))) :
    Calls Try.prog 47 #[.slice a n c, .func (.func 66) #[] #[.pointer (some ⟨bb, 0, none⟩)]] w fun e w' => e = .returned (.bool (allB n fun i => inB (L i) 0 most)) ∧ Below w.heap.size w w' :=
  allI 66 #[.pointer (some ⟨bb, 0, none⟩)] (fun _ _ => rfl) (fun i => inB (L i) 0 most) a n c L w hn hS.cells
    (fun W i hB hi => (upTo1_any (L i) most bb W ((hB.cell (p := ⟨bb, 0, none⟩) (Array.getElem?_eq_some_iff.1 hb).1).trans (cell_of_block hb 0 (by simp)))).mono (fun e w' ⟨h1, h2⟩ => ⟨h1, h2 ▸ Below.refl _ _⟩))
end Go.Proofs.Ytdcpgjepgajioaa
