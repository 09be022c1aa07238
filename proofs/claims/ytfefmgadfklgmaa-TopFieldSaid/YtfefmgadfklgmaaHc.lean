/- Contracts of the six steps. No conditions beyond each theorem's own. -/
import Derived.Test.YtfefmgadfklgmaaHz
import Derived.Test.YtfefmgadfklgmaaAg
import Derived.Carry
import Derived.BigQuiet
set_option linter.unusedVariables false
set_option linter.unusedSimpArgs false
set_option linter.unusedSectionVars false
set_option linter.constructorNameAsVariable false
namespace Go.Proofs.Ytfefmgadfklgmaa.L2
open Go.RowKit

attribute [local go_sem] gw_cell gw_frozen gw_size
theorem run_minI {Q : Program} (w : World) (ts : Array TypeId) (t : TypeId) (k k' : IntKind) (x y : Int) : (Builtin.min_ ts t #[.int k x, .int k' y]).run Q w = .ok (.int k (min x y)) w := by rw [run_minZ, minZ_eq]
theorem run_maxI {Q : Program} (w : World) (ts : Array TypeId) (t : TypeId) (k k' : IntKind) (x y : Int) : (Builtin.max_ ts t #[.int k x, .int k' y]).run Q w = .ok (.int k (max x y)) w := by rw [run_maxZ, maxZ_eq]
attribute [local go_sem ↓] run_minI run_maxI
theorem infoSp : (Try.prog.info? 82).map (fun i => (i.zero, i.size)) = some (some (.agg #[.int .i64 0, .int .i64 0]), 2) := by kernel_rfl

/-- malt, and what was taken up and lost -/
structure Vt where
  (dl dh wl wh pl ph tl th gl gh rl rh sl sh : Int)
def Vt.cells (v : Vt) : Array Value := #[.int .i64 v.dl, .int .i64 v.dh, .int .i64 v.wl, .int .i64 v.wh, .int .i64 v.pl, .int .i64 v.ph, .int .i64 v.tl, .int .i64 v.th, .int .i64 v.gl, .int .i64 v.gh, .int .i64 v.rl, .int .i64 v.rh, .int .i64 v.sl, .int .i64 v.sh]
/-- spans within limits -/
structure Vt.Ok (v : Vt) : Prop where
  d : 0 ≤ v.dl ∧ v.dl ≤ v.dh ∧ v.dh ≤ 1099511627776
  w : 0 ≤ v.wl ∧ v.wl ≤ v.wh ∧ v.wh ≤ 1099511627776
  p : 0 ≤ v.pl ∧ v.pl ≤ v.ph ∧ v.ph ≤ 1099511627776
  t : 0 ≤ v.tl ∧ v.tl ≤ v.th ∧ v.th ≤ 1099511627776
  g : 0 ≤ v.gl ∧ v.gl ≤ v.gh ∧ v.gh ≤ 1099511627776
  r : 0 ≤ v.rl ∧ v.rl ≤ v.rh ∧ v.rh ≤ 1099511627776
  s : 0 ≤ v.sl ∧ v.sl ≤ v.sh ∧ v.sh ≤ 1099511627776
theorem put_block {w : World} {B : Nat} {c : Array Value} {t : TypeId} (h : w.heap[B]? = some (.cells c t (0, 0))) (z : Grew) (k : Nat) (x y : Value) : (((gw w z).setCell ⟨B, k, none⟩ x).setCell ⟨B, k + 1, none⟩ y).heap[B]? = some (.cells ((c.setIfInBounds k x).setIfInBounds (k + 1) y) t (0, 0)) :=
  block_set (k + 1) y (block_set k x ((gw_block w z B (Array.getElem?_eq_some_iff.1 h).1).trans h))
theorem put_grown (w : World) (z : Grew) (B k j : Nat) (x y : Value) : w.grownBy (((gw w z).setCell ⟨B, k, none⟩ x).setCell ⟨B, j, none⟩ y) (some B) :=
  grownBy_trans (grownBy_trans (grownBy_of_below (below_gw w z) _) (grownBy_set _ _ _ _)) (grownBy_set _ _ _ _)
theorem gw_keep {w : World} {B : Nat} {o : Obj} (h : w.heap[B]? = some o) (z : Grew) : (gw w z).heap[B]? = some o := (gw_block w z B (Array.getElem?_eq_some_iff.1 h).1).trans h
theorem grown_new {a b c : World} {r : Option Nat} {k : Nat} (h : a.grownBy b r) (g : b.grownBy c (some k)) (hk : a.heap.size ≤ k) : a.grownBy c r :=
  ⟨g.os.trans h.os, g.tape.trans h.tape, g.output.trans h.output, Nat.le_trans h.size g.size, fun j hj hr => (g.block j (Nat.lt_of_lt_of_le hj h.size) (fun e => by cases e; omega)).trans (h.block j hj hr)⟩
/-- how a step ends that goes well -/
def Done (B : Nat) (v : Vt) (w : World) (e : Ending) (w' : World) : Prop := e = .returned (.tuple #[]) ∧ w'.heap[B]? = some (.cells v.cells 84 (0, 0)) ∧ w.grownBy w' (some B)
def Vt.steep (v : Vt) (a b : Int) : Vt := { v with wl := v.wl + a, wh := v.wh + b, tl := v.tl + a, th := v.th + b }
def Vt.gas (v : Vt) (a b : Int) : Int × Int := (upI (v.dl * a) 10000, v.dh * b / 10000)
def Vt.sprout (v : Vt) (a b : Int) : Vt := { v with dl := upI (v.dl * (10000 - b)) 10000, dh := v.dh * (10000 - a) / 10000, gl := v.gl + upI (v.dl * a) 10000, gh := v.gh + v.dh * b / 10000 }
def Vt.kiln (v : Vt) (a b : Int) : Vt := { v with wl := upI (v.dl * a) 10000, wh := min (v.dh * b / 10000) v.wh, sl := v.sl + max 0 (v.wl - min (v.dh * b / 10000) v.wh), sh := v.sh + (v.wh - upI (v.dl * a) 10000) }
def Vt.peat (v : Vt) (a b : Int) : Vt := { v with pl := v.pl + upI (v.dl * a) 1000, ph := v.ph + v.dh * b / 1000 }
def Vt.sieve (v : Vt) (a b : Int) : Vt := { v with dl := max 0 (v.dl - b), dh := v.dh - a, rl := v.rl + a, rh := v.rh + min b v.dh }
def Vt.weigh (v : Vt) (a b : Int) : Vt := { v with dl := max v.dl (a - v.wh), dh := min v.dh (b - v.wl), wl := max v.wl (a - v.dh), wh := min v.wh (b - v.dl) }

set_option maxRecDepth 100000 in
set_option maxHeartbeats 4000000 in
theorem steep_any (B : Nat) (v : Vt) (a b : Int) (w : World) (hB : w.heap[B]? = some (.cells v.cells 84 (0, 0))) (hv : v.Ok) (h0 : 0 ≤ a) (h1 : a ≤ b) (h2 : b ≤ 1099511627776) :
    Calls Try.prog 58 #[.pointer (some ⟨B, 0, none⟩), .int .i64 a, .int .i64 b] w (Done B (v.steep a b) w) := by
  obtain ⟨⟨d0, d1, d2⟩, ⟨w0, w1, w2⟩, ⟨p0, p1, p2⟩, ⟨t0, t1, t2⟩, ⟨g0, g1, g2⟩, ⟨r0, r1, r2⟩, ⟨s0, s1, s2⟩⟩ := hv
  have HB := Lib.hid hB
  have lB := (Array.getElem?_eq_some_iff.1 hB).1
  have c2 : w.cell? ⟨B, 2, none⟩ = some (.int .i64 v.wl) := cell_of_block HB.out 2 (by simp [Vt.cells])
  have c3 : w.cell? ⟨B, 3, none⟩ = some (.int .i64 v.wh) := cell_of_block HB.out 3 (by simp [Vt.cells])
  have c6 : w.cell? ⟨B, 6, none⟩ = some (.int .i64 v.tl) := cell_of_block HB.out 6 (by simp [Vt.cells])
  have c7 : w.cell? ⟨B, 7, none⟩ = some (.int .i64 v.th) := cell_of_block HB.out 7 (by simp [Vt.cells])
  have f2 := frozen_of_block HB.out 2
  have f3 := frozen_of_block HB.out 3
  have f6 := frozen_of_block HB.out 6
  have f7 := frozen_of_block HB.out 7
  clear hB
  have OF := Lib.hid (fun w => of_any a b w)
  have P1 := Lib.hid (fun w => plus_any v.wl v.wh a b w (by omega) (by omega) (by omega) (by omega))
  have P2 := Lib.hid (fun w => plus_any v.tl v.th a b w (by omega) (by omega) (by omega) (by omega))
  have DN : Vt.steep v a b = { v with wl := v.wl + a, wh := v.wh + b, tl := v.tl + a, th := v.th + b } := rfl
  rw [DN]; clear DN
  go_enter Try.func58, Try.ntmps58
  go_upto_region 0 with (fail)
  refine wp_region_ord [1] [0, 2, 3, 4, 5, 6, 7, 8, 9, 10, 11, 12, 13, 14, 15, 16, 17] [18, 19, 20, 21, 22, 23] (by kernel_rfl) (by kernel_rfl) ?_
  simp only [pickL, List.getElem?_cons_zero, List.getElem?_cons_succ]
  repeat (go_big_quiet_step (fail))
  refine wpQuiet_nil ?_
  repeat (go_big_quiet_step (first | (go_at_call 60; with_reducible exact Calls.gw_of (OF.out _)) | (go_at_call 59; first | with_reducible exact Calls.gw_of (P1.out _) | with_reducible exact Calls.gw_of (P2.out _))))
  refine wpQuiet_nil ?_
  rintro _ ⟨z, rfl⟩
  go_wp2_with fail
  have q1 := Lib.hid (put_block HB.out z 2 (.int .i64 (v.wl + a)) (.int .i64 (v.wh + b)))
  refine bodyPost_end (results_none rfl _ _ _) rfl ⟨rfl, block_set 7 _ (block_set 6 _ q1.out), grownBy_trans (grownBy_trans (put_grown w z B 2 3 _ _) (grownBy_set _ _ _ _)) (grownBy_set _ _ _ _)⟩

set_option maxRecDepth 100000 in
set_option maxHeartbeats 4000000 in
theorem peat_any (B : Nat) (v : Vt) (a b : Int) (w : World) (hB : w.heap[B]? = some (.cells v.cells 84 (0, 0))) (hv : v.Ok) (h0 : 0 ≤ a) (h1 : a ≤ b) (h2 : b ≤ 1048576) :
    Calls Try.prog 64 #[.pointer (some ⟨B, 0, none⟩), .int .i64 a, .int .i64 b] w (Done B (v.peat a b) w) := by
  obtain ⟨⟨d0, d1, d2⟩, ⟨w0, w1, w2⟩, ⟨p0, p1, p2⟩, ⟨t0, t1, t2⟩, ⟨g0, g1, g2⟩, ⟨r0, r1, r2⟩, ⟨s0, s1, s2⟩⟩ := hv
  have HB := Lib.hid hB
  have lB := (Array.getElem?_eq_some_iff.1 hB).1
  have c0 : w.cell? ⟨B, 0, none⟩ = some (.int .i64 v.dl) := cell_of_block HB.out 0 (by simp [Vt.cells])
  have c1 : w.cell? ⟨B, 1, none⟩ = some (.int .i64 v.dh) := cell_of_block HB.out 1 (by simp [Vt.cells])
  have c4 : w.cell? ⟨B, 4, none⟩ = some (.int .i64 v.pl) := cell_of_block HB.out 4 (by simp [Vt.cells])
  have c5 : w.cell? ⟨B, 5, none⟩ = some (.int .i64 v.ph) := cell_of_block HB.out 5 (by simp [Vt.cells])
  have f4 := frozen_of_block HB.out 4
  have f5 := frozen_of_block HB.out 5
  clear hB
  have m0 := Int.mul_nonneg (show 0 ≤ v.dl by omega) (show 0 ≤ a by omega)
  have m1 : v.dl * a ≤ 1099511627776 * 1048576 := Int.mul_le_mul (by omega) (by omega) (by omega) (by omega)
  have n0 := Int.mul_nonneg (show 0 ≤ v.dh by omega) (show 0 ≤ b by omega)
  have n1 : v.dh * b ≤ 1099511627776 * 1048576 := Int.mul_le_mul (by omega) (by omega) (by omega) (by omega)
  have PA := Lib.hid (fun w => part_any v.dl v.dh a b 1000 w m0 (by omega) n0 (by omega) (by omega) (by omega))
  have u0 := upI_nonneg m0 (show (1 : Int) ≤ 1000 by omega)
  have u1 : upI (v.dl * a) 1000 ≤ 2000000000000000 := upI_le (by omega) (by omega)
  have u2 := Int.ediv_nonneg n0 (show (0 : Int) ≤ 1000 by omega)
  have u3 : v.dh * b / 1000 ≤ 2000000000000000 := by omega
  have P1 := Lib.hid (fun w => plus_any v.pl v.ph (upI (v.dl * a) 1000) (v.dh * b / 1000) w (by omega) (by omega) (by omega) (by omega))
  have DN : Vt.peat v a b = { v with pl := v.pl + upI (v.dl * a) 1000, ph := v.ph + v.dh * b / 1000 } := rfl
  rw [DN]; clear DN
  go_enter Try.func64, Try.ntmps64
  go_upto_region 0 with (fail)
  refine wp_region_gw_tail 13 (by kernel_rfl) (by kernel_rfl) ?_
  simp only [List.take_succ_cons, List.take_zero]
  repeat (go_big_quiet_step (first | (go_at_call 62; with_reducible exact Calls.gw_of (PA.out _)) | (go_at_call 59; with_reducible exact Calls.gw_of (P1.out _))))
  refine wpQuiet_nil ?_
  rintro _ ⟨z, rfl⟩
  simp only [List.drop_succ_cons, List.drop_zero]
  go_wp2_with fail
  refine bodyPost_end (results_none rfl _ _ _) rfl ⟨rfl, put_block HB.out z 4 _ _, put_grown w z B 4 5 _ _⟩

set_option maxRecDepth 100000 in
set_option maxHeartbeats 4000000 in
theorem sieve_any (B : Nat) (v : Vt) (a b : Int) (w : World) (hB : w.heap[B]? = some (.cells v.cells 84 (0, 0))) (hv : v.Ok) (h0 : 0 ≤ a) (h1 : a ≤ b) (h2 : b ≤ 1099511627776) :
    Calls Try.prog 65 #[.pointer (some ⟨B, 0, none⟩), .int .i64 a, .int .i64 b] w (Done B (v.sieve a b) w) := by
  obtain ⟨⟨d0, d1, d2⟩, ⟨w0, w1, w2⟩, ⟨p0, p1, p2⟩, ⟨t0, t1, t2⟩, ⟨g0, g1, g2⟩, ⟨r0, r1, r2⟩, ⟨s0, s1, s2⟩⟩ := hv
  have HB := Lib.hid hB
  have lB := (Array.getElem?_eq_some_iff.1 hB).1
  have c0 : w.cell? ⟨B, 0, none⟩ = some (.int .i64 v.dl) := cell_of_block HB.out 0 (by simp [Vt.cells])
  have c1 : w.cell? ⟨B, 1, none⟩ = some (.int .i64 v.dh) := cell_of_block HB.out 1 (by simp [Vt.cells])
  have c10 : w.cell? ⟨B, 10, none⟩ = some (.int .i64 v.rl) := cell_of_block HB.out 10 (by simp [Vt.cells])
  have c11 : w.cell? ⟨B, 11, none⟩ = some (.int .i64 v.rh) := cell_of_block HB.out 11 (by simp [Vt.cells])
  have f10 := frozen_of_block HB.out 10
  have f11 := frozen_of_block HB.out 11
  clear hB
  have O1 := Lib.hid (fun w => of_any a (min b v.dh) w)
  have O2 := Lib.hid (fun w => of_any (max 0 (v.dl - b)) (v.dh - a) w)
  have P1 := Lib.hid (fun w => plus_any v.rl v.rh a (min b v.dh) w (by omega) (by omega) (by omega) (by omega))
  have DN : Vt.sieve v a b = { v with dl := max 0 (v.dl - b), dh := v.dh - a, rl := v.rl + a, rh := v.rh + min b v.dh } := rfl
  rw [DN]; clear DN
  go_enter Try.func65, Try.ntmps65
  go_upto_region 0 with (fail)
  refine wp_region_gw_tail 16 (by kernel_rfl) (by kernel_rfl) ?_
  simp only [List.take_succ_cons, List.take_zero]
  repeat (go_big_quiet_step (first | (go_at_call 60; with_reducible exact Calls.gw_of (O1.out _)) | (go_at_call 59; with_reducible exact Calls.gw_of (P1.out _))))
  refine wpQuiet_nil ?_
  rintro _ ⟨z, rfl⟩
  simp only [List.drop_succ_cons, List.drop_zero]
  go_wp2_with fail
  obtain ⟨W2, hW2⟩ : ∃ W2, ((gw w z).setCell ⟨B, 10, none⟩ (.int .i64 (v.rl + a))).setCell ⟨B, 11, none⟩ (.int .i64 (v.rh + min b v.dh)) = W2 := ⟨_, rfl⟩
  have HB2 := Lib.hid (show W2.heap[B]? = some (.cells _ 84 (0, 0)) by rw [← hW2]; exact put_block HB.out z 10 (.int .i64 (v.rl + a)) (.int .i64 (v.rh + min b v.dh)))
  have GW2 := Lib.hid (show w.grownBy W2 (some B) by rw [← hW2]; exact put_grown w z B 10 11 _ _)
  rw [hW2]
  clear hW2
  clear c0 c1 c10 c11 f10 f11
  have l2 := (Array.getElem?_eq_some_iff.1 HB2.out).1
  have c0 : W2.cell? ⟨B, 0, none⟩ = some (.int .i64 v.dl) := cell_of_block HB2.out 0 (by simp [Vt.cells])
  have c1 : W2.cell? ⟨B, 1, none⟩ = some (.int .i64 v.dh) := cell_of_block HB2.out 1 (by simp [Vt.cells])
  have f0 := frozen_of_block HB2.out 0
  have f1 := frozen_of_block HB2.out 1
  go_upto_region 1 with (fail)
  refine wp_region_gw_tail 19 (by kernel_rfl) (by kernel_rfl) ?_
  simp only [List.take_succ_cons, List.take_zero]
  repeat (go_big_quiet_step (first | (go_at_call 60; with_reducible exact Calls.gw_of (O2.out _))))
  refine wpQuiet_nil ?_
  rintro _ ⟨z2, rfl⟩
  simp only [List.drop_succ_cons, List.drop_zero]
  go_wp2_with fail
  refine bodyPost_end (results_none rfl _ _ _) rfl ⟨rfl, put_block HB2.out z2 0 _ _, grownBy_trans GW2.out (put_grown W2 z2 B 0 1 _ _)⟩

set_option maxRecDepth 100000 in
set_option maxHeartbeats 4000000 in
theorem kiln_any (B : Nat) (v : Vt) (a b : Int) (w : World) (hB : w.heap[B]? = some (.cells v.cells 84 (0, 0))) (hv : v.Ok) (h0 : 0 ≤ a) (h1 : a ≤ b) (h2 : b ≤ 10000) :
    Calls Try.prog 63 #[.pointer (some ⟨B, 0, none⟩), .int .i64 a, .int .i64 b] w (Done B (v.kiln a b) w) := by
  obtain ⟨⟨d0, d1, d2⟩, ⟨w0, w1, w2⟩, ⟨p0, p1, p2⟩, ⟨t0, t1, t2⟩, ⟨g0, g1, g2⟩, ⟨r0, r1, r2⟩, ⟨s0, s1, s2⟩⟩ := hv
  have HB := Lib.hid hB
  have lB := (Array.getElem?_eq_some_iff.1 hB).1
  have c0 : w.cell? ⟨B, 0, none⟩ = some (.int .i64 v.dl) := cell_of_block HB.out 0 (by simp [Vt.cells])
  have c1 : w.cell? ⟨B, 1, none⟩ = some (.int .i64 v.dh) := cell_of_block HB.out 1 (by simp [Vt.cells])
  have c2 : w.cell? ⟨B, 2, none⟩ = some (.int .i64 v.wl) := cell_of_block HB.out 2 (by simp [Vt.cells])
  have c3 : w.cell? ⟨B, 3, none⟩ = some (.int .i64 v.wh) := cell_of_block HB.out 3 (by simp [Vt.cells])
  have c12 : w.cell? ⟨B, 12, none⟩ = some (.int .i64 v.sl) := cell_of_block HB.out 12 (by simp [Vt.cells])
  have c13 : w.cell? ⟨B, 13, none⟩ = some (.int .i64 v.sh) := cell_of_block HB.out 13 (by simp [Vt.cells])
  clear hB
  have m0 := Int.mul_nonneg (show 0 ≤ v.dl by omega) (show 0 ≤ a by omega)
  have m1 : v.dl * a ≤ 1099511627776 * 10000 := Int.mul_le_mul (by omega) (by omega) (by omega) (by omega)
  have n0 := Int.mul_nonneg (show 0 ≤ v.dh by omega) (show 0 ≤ b by omega)
  have n1 : v.dh * b ≤ 1099511627776 * 10000 := Int.mul_le_mul (by omega) (by omega) (by omega) (by omega)
  have PA := Lib.hid (fun w => part_any v.dl v.dh a b 10000 w m0 (by omega) n0 (by omega) (by omega) (by omega))
  have u0 := upI_nonneg m0 (show (1 : Int) ≤ 10000 by omega)
  have u1 : upI (v.dl * a) 10000 ≤ 2000000000000000 := upI_le (by omega) (by omega)
  have u2 := Int.ediv_nonneg n0 (show (0 : Int) ≤ 10000 by omega)
  have u3 : v.dh * b / 10000 ≤ 2000000000000000 := by omega
  have DN : Vt.kiln v a b = { v with wl := upI (v.dl * a) 10000, wh := min (v.dh * b / 10000) v.wh, sl := v.sl + max 0 (v.wl - min (v.dh * b / 10000) v.wh), sh := v.sh + (v.wh - upI (v.dl * a) 10000) } := rfl
  rw [DN]; clear DN
  obtain ⟨ll, hll⟩ : ∃ x, upI (v.dl * a) 10000 = x := ⟨_, rfl⟩
  obtain ⟨lh, hlh⟩ : ∃ x, v.dh * b / 10000 = x := ⟨_, rfl⟩
  rw [hll] at u0 u1 ⊢
  rw [hlh] at u2 u3 ⊢
  simp only [hll, hlh] at PA
  clear hll hlh m0 m1 n0 n1
  have O1 := Lib.hid (fun w => of_any (max 0 (v.wl - min lh v.wh)) (v.wh - ll) w)
  have P1 := Lib.hid (fun w => plus_any v.sl v.sh (max 0 (v.wl - min lh v.wh)) (v.wh - ll) w (by omega) (by omega) (by omega) (by omega))
  go_enter Try.func63, Try.ntmps63
  go_wp2_with fail
  refine (Calls.grown (PA.out _)).mono ?_
  rintro e w3 ⟨rfl, z, rfl⟩
  go_upto_region 1 with (fail)
  obtain ⟨b6, hb6⟩ : ∃ b, (gw w z).heap.size = b := ⟨_, rfl⟩
  obtain ⟨W2, hW2⟩ : ∃ W2, (gw w z).alloc (.cells #[.int .i64 ll, .int .i64 lh] 82) = W2 := ⟨_, rfl⟩
  have q6 := Lib.hid (show W2.heap[b6]? = some (.cells #[.int .i64 ll, .int .i64 lh] 82 (0, 0)) by rw [← hW2]; exact alloc_at hb6)
  have HB2 := Lib.hid (show W2.heap[B]? = some (.cells v.cells 84 (0, 0)) by rw [← hW2]; exact alloc_keep (gw_keep HB.out z))
  have G2 := Lib.hid (show w.grownBy W2 (some B) by rw [← hW2]; exact grownBy_of_below ((below_gw w z).trans ((below_alloc _ _).mono (below_gw w z).size)) _)
  have hne : B ≠ b6 := by rw [← hb6, gw_size]; omega
  have hle : w.heap.size ≤ b6 := by rw [← hb6, gw_size]; omega
  have hne2 : b6 ≠ B := fun e => hne e.symm
  try simp only [gw_size] at hb6
  try rw [hb6]
  rw [hW2]
  clear hW2 hb6 c0 c1 c2 c3 c12 c13
  have l2 := (Array.getElem?_eq_some_iff.1 HB2.out).1
  have l6 := (Array.getElem?_eq_some_iff.1 q6.out).1
  have c3 : W2.cell? ⟨B, 3, none⟩ = some (.int .i64 v.wh) := cell_of_block HB2.out 3 (by simp [Vt.cells])
  have x0 : W2.cell? ⟨b6, 0, none⟩ = some (.int .i64 ll) := cell_of_block q6.out 0 (by simp)
  have x1 : W2.cell? ⟨b6, 1, none⟩ = some (.int .i64 lh) := cell_of_block q6.out 1 (by simp)
  have fx := frozen_of_block q6.out 1
  refine wp_region_gw_tail 12 (by kernel_rfl) (by kernel_rfl) ?_
  simp only [List.take_succ_cons, List.take_zero]
  repeat (go_big_quiet_step (fail))
  refine wpQuiet_nil ?_
  rintro _ ⟨z2, rfl⟩
  simp only [List.drop_succ_cons, List.drop_zero]
  go_wp2_with fail
  obtain ⟨W3, hW3⟩ : ∃ W3, (gw W2 z2).setCell ⟨b6, 1, none⟩ (.int .i64 (min lh v.wh)) = W3 := ⟨_, rfl⟩
  have g3 : W2.grownBy W3 (some b6) := by rw [← hW3]; exact grownBy_trans (grownBy_of_below (below_gw W2 z2) _) (grownBy_set _ _ _ _)
  have HB3 := Lib.hid ((g3.block B l2 (by simpa using hne)).trans HB2.out)
  have q3 := Lib.hid (show W3.heap[b6]? = some (.cells #[.int .i64 ll, .int .i64 (min lh v.wh)] 82 (0, 0)) by rw [← hW3]; exact block_set 1 _ (gw_keep q6.out z2))
  have G3 := Lib.hid (grown_new G2.out g3 hle)
  rw [hW3]
  clear hW3 g3 c3 x0 x1 fx
  have l3 := (Array.getElem?_eq_some_iff.1 HB3.out).1
  have l63 := (Array.getElem?_eq_some_iff.1 q3.out).1
  have c2 : W3.cell? ⟨B, 2, none⟩ = some (.int .i64 v.wl) := cell_of_block HB3.out 2 (by simp [Vt.cells])
  have c3 : W3.cell? ⟨B, 3, none⟩ = some (.int .i64 v.wh) := cell_of_block HB3.out 3 (by simp [Vt.cells])
  have c12 : W3.cell? ⟨B, 12, none⟩ = some (.int .i64 v.sl) := cell_of_block HB3.out 12 (by simp [Vt.cells])
  have c13 : W3.cell? ⟨B, 13, none⟩ = some (.int .i64 v.sh) := cell_of_block HB3.out 13 (by simp [Vt.cells])
  have f12 := frozen_of_block HB3.out 12
  have f13 := frozen_of_block HB3.out 13
  have x0 : W3.cell? ⟨b6, 0, none⟩ = some (.int .i64 ll) := cell_of_block q3.out 0 (by simp)
  have x1 : W3.cell? ⟨b6, 1, none⟩ = some (.int .i64 (min lh v.wh)) := cell_of_block q3.out 1 (by simp)
  go_upto_region 2 with (fail)
  refine wp_region_gw_tail 28 (by kernel_rfl) (by kernel_rfl) ?_
  simp only [List.take_succ_cons, List.take_zero]
  repeat (go_big_quiet_step (first | (go_at_call 60; with_reducible exact Calls.gw_of (O1.out _)) | (go_at_call 59; with_reducible exact Calls.gw_of (P1.out _))))
  refine wpQuiet_nil ?_
  rintro _ ⟨z3, rfl⟩
  simp only [List.drop_succ_cons, List.drop_zero]
  go_upto_region 3 with (fail)
  obtain ⟨W4, hW4⟩ : ∃ W4, ((gw W3 z3).setCell ⟨B, 12, none⟩ (.int .i64 (v.sl + max 0 (v.wl - min lh v.wh)))).setCell ⟨B, 13, none⟩ (.int .i64 (v.sh + (v.wh - ll))) = W4 := ⟨_, rfl⟩
  have HB4 := Lib.hid (show W4.heap[B]? = some (.cells _ 84 (0, 0)) by rw [← hW4]; exact put_block HB3.out z3 12 (.int .i64 (v.sl + max 0 (v.wl - min lh v.wh))) (.int .i64 (v.sh + (v.wh - ll))))
  have g4 : W3.grownBy W4 (some B) := by rw [← hW4]; exact put_grown W3 z3 B 12 13 _ _
  have q4 := Lib.hid ((g4.block b6 l63 (by simpa using hne2)).trans q3.out)
  have G4 := Lib.hid (grownBy_trans G3.out g4)
  rw [hW4]
  clear hW4 g4 c2 c3 c12 c13 f12 f13 x0 x1
  have l4 := (Array.getElem?_eq_some_iff.1 HB4.out).1
  have l64 := (Array.getElem?_eq_some_iff.1 q4.out).1
  have x0 : W4.cell? ⟨b6, 0, none⟩ = some (.int .i64 (ll)) := cell_of_block q4.out 0 (by simp)
  have x1 : W4.cell? ⟨b6, 1, none⟩ = some (.int .i64 (min lh v.wh)) := cell_of_block q4.out 1 (by simp)
  have c2 : W4.cell? ⟨B, 2, none⟩ = some (.int .i64 v.wl) := cell_of_block HB4.out 2 (by simp [Vt.cells])
  have c3 : W4.cell? ⟨B, 3, none⟩ = some (.int .i64 v.wh) := cell_of_block HB4.out 3 (by simp [Vt.cells])
  have f2 := frozen_of_block HB4.out 2
  have f3 := frozen_of_block HB4.out 3
  go_wp2_with fail
  refine bodyPost_end (results_none rfl _ _ _) rfl ⟨rfl, block_set 3 _ (block_set 2 _ HB4.out), grownBy_trans (grownBy_trans G4.out (grownBy_set _ _ _ _)) (grownBy_set _ _ _ _)⟩

set_option maxRecDepth 100000 in
set_option maxHeartbeats 4000000 in
theorem weigh_any (B : Nat) (v : Vt) (a b : Int) (w : World) (hB : w.heap[B]? = some (.cells v.cells 84 (0, 0))) (hv : v.Ok) (h0 : 0 ≤ a) (h1 : a ≤ b) (h2 : b ≤ 1099511627776) :
    Calls Try.prog 66 #[.pointer (some ⟨B, 0, none⟩), .int .i64 a, .int .i64 b] w (Done B (v.weigh a b) w) := by
  obtain ⟨⟨d0, d1, d2⟩, ⟨w0, w1, w2⟩, ⟨p0, p1, p2⟩, ⟨t0, t1, t2⟩, ⟨g0, g1, g2⟩, ⟨r0, r1, r2⟩, ⟨s0, s1, s2⟩⟩ := hv
  have HB := Lib.hid hB
  have lB := (Array.getElem?_eq_some_iff.1 hB).1
  have c0 : w.cell? ⟨B, 0, none⟩ = some (.int .i64 v.dl) := cell_of_block HB.out 0 (by simp [Vt.cells])
  have c1 : w.cell? ⟨B, 1, none⟩ = some (.int .i64 v.dh) := cell_of_block HB.out 1 (by simp [Vt.cells])
  have c2 : w.cell? ⟨B, 2, none⟩ = some (.int .i64 v.wl) := cell_of_block HB.out 2 (by simp [Vt.cells])
  have c3 : w.cell? ⟨B, 3, none⟩ = some (.int .i64 v.wh) := cell_of_block HB.out 3 (by simp [Vt.cells])
  clear hB
  have O1 := Lib.hid (fun w => of_any (max v.dl (a - v.wh)) (min v.dh (b - v.wl)) w)
  have O2 := Lib.hid (fun w => of_any (max v.wl (a - v.dh)) (min v.wh (b - v.dl)) w)
  have DN : Vt.weigh v a b = { v with dl := max v.dl (a - v.wh), dh := min v.dh (b - v.wl), wl := max v.wl (a - v.dh), wh := min v.wh (b - v.dl) } := rfl
  rw [DN]; clear DN
  go_enter Try.func66, Try.ntmps66
  go_upto_region 0 with (fail)
  refine wp_region_box1 [true, true, true, true, true, true, true, true, true, true, true, true, true, true, true, true, true, true, true, true, true, true, true, true, true, true, true, true, true, true, true, false, false] 31 32 #[.int .i64 0, .int .i64 0] #[.int .i64 (max v.dl (a - v.wh)), .int .i64 (min v.dh (b - v.wl))] (by kernel_rfl) rfl rfl rfl (by kernel_rfl) rfl (by kernel_rfl) infoSp rfl rfl (by simp [Value.oneCell']) ?_
  apply Exists.intro
  refine ⟨fun S hS hx => ?_, ?_, ?_⟩
  · obtain ⟨x0, hx0⟩ := hx
    haveI : Nonempty (GrewS w S) := ⟨⟨x0, hx0⟩⟩
    simp only [pickM]
    repeat (go_big_quiet_step ((go_at_call 60; with_reducible exact Calls.gwS hS (O1.out _))))
    exact wpQuiet_nil rfl
  · rfl
  intro b6 w6 hBw hblk hbb
  simp only [Act.put, List.setIfInBounds_toArray, List.set_cons_succ, List.set_cons_zero]
  have HB2 := Lib.hid ((hbb.block B lB).trans HB.out)
  have q6 := Lib.hid hblk
  have G2 := Lib.hid (grownBy_of_below hbb (some B))
  have hne : B ≠ b6 := by omega
  have hne2 : b6 ≠ B := fun e => hne e.symm
  clear hblk hbb c0 c1 c2 c3
  have l2 := (Array.getElem?_eq_some_iff.1 HB2.out).1
  have l6 := (Array.getElem?_eq_some_iff.1 q6.out).1
  have c0 : w6.cell? ⟨B, 0, none⟩ = some (.int .i64 v.dl) := cell_of_block HB2.out 0 (by simp [Vt.cells])
  have c1 : w6.cell? ⟨B, 1, none⟩ = some (.int .i64 v.dh) := cell_of_block HB2.out 1 (by simp [Vt.cells])
  have c2 : w6.cell? ⟨B, 2, none⟩ = some (.int .i64 v.wl) := cell_of_block HB2.out 2 (by simp [Vt.cells])
  have c3 : w6.cell? ⟨B, 3, none⟩ = some (.int .i64 v.wh) := cell_of_block HB2.out 3 (by simp [Vt.cells])
  have f2 := frozen_of_block HB2.out 2
  have f3 := frozen_of_block HB2.out 3
  go_upto_region 1 with (fail)
  refine wp_region_gw_tail 32 (by kernel_rfl) (by kernel_rfl) ?_
  simp only [List.take_succ_cons, List.take_zero]
  repeat (go_big_quiet_step (first | (go_at_call 60; with_reducible exact Calls.gw_of (O2.out _))))
  refine wpQuiet_nil ?_
  rintro _ ⟨z2, rfl⟩
  simp only [List.drop_succ_cons, List.drop_zero]
  go_upto_region 2 with (fail)
  obtain ⟨W4, hW4⟩ : ∃ W4, ((gw w6 z2).setCell ⟨B, 2, none⟩ (.int .i64 (max v.wl (a - v.dh)))).setCell ⟨B, 3, none⟩ (.int .i64 (min v.wh (b - v.dl))) = W4 := ⟨_, rfl⟩
  have HB4 := Lib.hid (show W4.heap[B]? = some (.cells _ 84 (0, 0)) by rw [← hW4]; exact put_block HB2.out z2 2 (.int .i64 (max v.wl (a - v.dh))) (.int .i64 (min v.wh (b - v.dl))))
  have g4 : w6.grownBy W4 (some B) := by rw [← hW4]; exact put_grown w6 z2 B 2 3 _ _
  have q4 := Lib.hid ((g4.block b6 l6 (by simpa using hne2)).trans q6.out)
  have G4 := Lib.hid (grownBy_trans G2.out g4)
  rw [hW4]
  clear hW4 g4 c0 c1 c2 c3 f2 f3
  have l4 := (Array.getElem?_eq_some_iff.1 HB4.out).1
  have l64 := (Array.getElem?_eq_some_iff.1 q4.out).1
  have x0 : W4.cell? ⟨b6, 0, none⟩ = some (.int .i64 (max v.dl (a - v.wh))) := cell_of_block q4.out 0 (by simp)
  have x1 : W4.cell? ⟨b6, 1, none⟩ = some (.int .i64 (min v.dh (b - v.wl))) := cell_of_block q4.out 1 (by simp)
  have c0 : W4.cell? ⟨B, 0, none⟩ = some (.int .i64 v.dl) := cell_of_block HB4.out 0 (by simp [Vt.cells])
  have c1 : W4.cell? ⟨B, 1, none⟩ = some (.int .i64 v.dh) := cell_of_block HB4.out 1 (by simp [Vt.cells])
  have f0 := frozen_of_block HB4.out 0
  have f1 := frozen_of_block HB4.out 1
  go_wp2_with fail
  refine bodyPost_end (results_none rfl _ _ _) rfl ⟨rfl, block_set 1 _ (block_set 0 _ HB4.out), grownBy_trans (grownBy_trans G4.out (grownBy_set _ _ _ _)) (grownBy_set _ _ _ _)⟩

set_option maxRecDepth 100000 in
set_option maxHeartbeats 4000000 in
theorem sprout_ok (B : Nat) (v : Vt) (a b : Int) (w : World) (hB : w.heap[B]? = some (.cells v.cells 84 (0, 0))) (hv : v.Ok) (h0 : 0 ≤ a) (h1 : a ≤ b) (h2 : b ≤ 10000) (hg : (v.gas a b).1 ≤ (v.gas a b).2) :
    Calls Try.prog 61 #[.pointer (some ⟨B, 0, none⟩), .int .i64 a, .int .i64 b] w (Done B (v.sprout a b) w) := by
  obtain ⟨⟨d0, d1, d2⟩, ⟨w0, w1, w2⟩, ⟨p0, p1, p2⟩, ⟨t0, t1, t2⟩, ⟨g0, g1, g2⟩, ⟨r0, r1, r2⟩, ⟨s0, s1, s2⟩⟩ := hv
  have HB := Lib.hid hB
  have lB := (Array.getElem?_eq_some_iff.1 hB).1
  have c0 : w.cell? ⟨B, 0, none⟩ = some (.int .i64 v.dl) := cell_of_block HB.out 0 (by simp [Vt.cells])
  have c1 : w.cell? ⟨B, 1, none⟩ = some (.int .i64 v.dh) := cell_of_block HB.out 1 (by simp [Vt.cells])
  clear hB
  unfold Vt.gas at hg
  dsimp only at hg
  have m0 := Int.mul_nonneg (show 0 ≤ v.dl by omega) (show 0 ≤ a by omega)
  have m1 : v.dl * a ≤ 1099511627776 * 10000 := Int.mul_le_mul (by omega) (by omega) (by omega) (by omega)
  have n0 := Int.mul_nonneg (show 0 ≤ v.dh by omega) (show 0 ≤ b by omega)
  have n1 : v.dh * b ≤ 1099511627776 * 10000 := Int.mul_le_mul (by omega) (by omega) (by omega) (by omega)
  have i0 := Int.mul_nonneg (show 0 ≤ v.dl by omega) (show 0 ≤ (10000 - b) by omega)
  have i1 : v.dl * (10000 - b) ≤ 1099511627776 * 10000 := Int.mul_le_mul (by omega) (by omega) (by omega) (by omega)
  have j0 := Int.mul_nonneg (show 0 ≤ v.dh by omega) (show 0 ≤ (10000 - a) by omega)
  have j1 : v.dh * (10000 - a) ≤ 1099511627776 * 10000 := Int.mul_le_mul (by omega) (by omega) (by omega) (by omega)
  have PA := Lib.hid (fun w => part_any v.dl v.dh a b 10000 w m0 (by omega) n0 (by omega) (by omega) (by omega))
  have u0 := upI_nonneg m0 (show (1 : Int) ≤ 10000 by omega)
  have u1 : upI (v.dl * a) 10000 ≤ 2000000000000000 := upI_le (by omega) (by omega)
  have u2 := Int.ediv_nonneg n0 (show (0 : Int) ≤ 10000 by omega)
  have u3 : v.dh * b / 10000 ≤ 2000000000000000 := by omega
  have PB := Lib.hid (fun w => part_any v.dl v.dh (10000 - b) (10000 - a) 10000 w i0 (by omega) j0 (by omega) (by omega) (by omega))
  have DN : Vt.sprout v a b = { v with dl := upI (v.dl * (10000 - b)) 10000, dh := v.dh * (10000 - a) / 10000, gl := v.gl + upI (v.dl * a) 10000, gh := v.gh + v.dh * b / 10000 } := rfl
  rw [DN]; clear DN
  obtain ⟨ll, hll⟩ : ∃ x, upI (v.dl * a) 10000 = x := ⟨_, rfl⟩
  obtain ⟨lh, hlh⟩ : ∃ x, v.dh * b / 10000 = x := ⟨_, rfl⟩
  rw [hll] at u0 u1 hg ⊢
  rw [hlh] at u2 u3 hg ⊢
  simp only [hll, hlh] at PA
  clear hll hlh m0 m1 n0 n1
  have dg : decide (ll ≤ lh) = true := by simp; omega
  have P1 := Lib.hid (fun w => plus_any v.gl v.gh ll lh w (by omega) (by omega) (by omega) (by omega))
  clear i0 i1 j0 j1
  go_enter Try.func61, Try.ntmps61
  go_wp2_with fail
  refine (Calls.grown (PA.out _)).mono ?_
  rintro e w3 ⟨rfl, z, rfl⟩
  go_upto_region 1 with (fail)
  obtain ⟨b6, hb6⟩ : ∃ b, (gw w z).heap.size = b := ⟨_, rfl⟩
  obtain ⟨W2, hW2⟩ : ∃ W2, (gw w z).alloc (.cells #[.int .i64 ll, .int .i64 lh] 82) = W2 := ⟨_, rfl⟩
  have q6 := Lib.hid (show W2.heap[b6]? = some (.cells #[.int .i64 ll, .int .i64 lh] 82 (0, 0)) by rw [← hW2]; exact alloc_at hb6)
  have HB2 := Lib.hid (show W2.heap[B]? = some (.cells v.cells 84 (0, 0)) by rw [← hW2]; exact alloc_keep (gw_keep HB.out z))
  have BL2 := Lib.hid (show Below w.heap.size w W2 by rw [← hW2]; exact (below_gw w z).trans ((below_alloc _ _).mono (below_gw w z).size))
  have hne : B ≠ b6 := by rw [← hb6, gw_size]; omega
  have hne2 : b6 ≠ B := fun e => hne e.symm
  have hle : w.heap.size ≤ b6 := by rw [← hb6, gw_size]; omega
  try simp only [gw_size] at hb6
  try rw [hb6]
  rw [hW2]
  clear hW2 hb6 c0 c1
  have l2 := (Array.getElem?_eq_some_iff.1 HB2.out).1
  have l6 := (Array.getElem?_eq_some_iff.1 q6.out).1
  have x0 : W2.cell? ⟨b6, 0, none⟩ = some (.int .i64 ll) := cell_of_block q6.out 0 (by simp)
  have x1 : W2.cell? ⟨b6, 1, none⟩ = some (.int .i64 lh) := cell_of_block q6.out 1 (by simp)
  go_wp2_with fail
  refine (need_ok _ _).mono ?_
  rintro e w4 ⟨rfl, rfl⟩
  have c8 : W2.cell? ⟨B, 8, none⟩ = some (.int .i64 v.gl) := cell_of_block HB2.out 8 (by simp [Vt.cells])
  have c9 : W2.cell? ⟨B, 9, none⟩ = some (.int .i64 v.gh) := cell_of_block HB2.out 9 (by simp [Vt.cells])
  have f8 := frozen_of_block HB2.out 8
  have f9 := frozen_of_block HB2.out 9
  go_upto_region 2 with (fail)
  refine wp_region_gw_tail 7 (by kernel_rfl) (by kernel_rfl) ?_
  simp only [List.take_succ_cons, List.take_zero]
  repeat (go_big_quiet_step (first | (go_at_call 59; with_reducible exact Calls.gw_of (P1.out _))))
  refine wpQuiet_nil ?_
  rintro _ ⟨z2, rfl⟩
  simp only [List.drop_succ_cons, List.drop_zero]
  go_upto_region 3 with (fail)
  obtain ⟨W3, hW3⟩ : ∃ W3, ((gw W2 z2).setCell ⟨B, 8, none⟩ (.int .i64 (v.gl + ll))).setCell ⟨B, 9, none⟩ (.int .i64 (v.gh + lh)) = W3 := ⟨_, rfl⟩
  have HB3 := Lib.hid (show W3.heap[B]? = some (.cells _ 84 (0, 0)) by rw [← hW3]; exact put_block HB2.out z2 8 (.int .i64 (v.gl + ll)) (.int .i64 (v.gh + lh)))
  have GW3 := Lib.hid (show w.grownBy W3 (some B) by rw [← hW3]; exact grownBy_trans (grownBy_of_below BL2.out _) (put_grown W2 z2 B 8 9 _ _))
  rw [hW3]
  clear hW3
  clear c8 c9 f8 f9 x0 x1
  have l3 := (Array.getElem?_eq_some_iff.1 HB3.out).1
  have c0 : W3.cell? ⟨B, 0, none⟩ = some (.int .i64 v.dl) := cell_of_block HB3.out 0 (by simp [Vt.cells])
  have c1 : W3.cell? ⟨B, 1, none⟩ = some (.int .i64 v.dh) := cell_of_block HB3.out 1 (by simp [Vt.cells])
  have f0 := frozen_of_block HB3.out 0
  have f1 := frozen_of_block HB3.out 1
  go_wp2_with fail
  refine (Calls.grown (PB.out _)).mono ?_
  rintro e w5 ⟨rfl, z5, rfl⟩
  go_wp2_with fail
  refine bodyPost_end (results_none rfl _ _ _) rfl ⟨rfl, put_block HB3.out z5 0 _ _, grownBy_trans GW3.out (put_grown W3 z5 B 0 1 _ _)⟩

set_option maxRecDepth 100000 in
set_option maxHeartbeats 4000000 in
theorem sprout_bad (B : Nat) (v : Vt) (a b : Int) (w : World) (hB : w.heap[B]? = some (.cells v.cells 84 (0, 0))) (hv : v.Ok) (h0 : 0 ≤ a) (h1 : a ≤ b) (h2 : b ≤ 10000) (hg : ¬ (v.gas a b).1 ≤ (v.gas a b).2) :
    Calls Try.prog 61 #[.pointer (some ⟨B, 0, none⟩), .int .i64 a, .int .i64 b] w (fun e w' => e = .panicked (misfit 4) ∧ Below w.heap.size w w') := by
  obtain ⟨⟨d0, d1, d2⟩, ⟨w0, w1, w2⟩, ⟨p0, p1, p2⟩, ⟨t0, t1, t2⟩, ⟨g0, g1, g2⟩, ⟨r0, r1, r2⟩, ⟨s0, s1, s2⟩⟩ := hv
  have HB := Lib.hid hB
  have lB := (Array.getElem?_eq_some_iff.1 hB).1
  have c0 : w.cell? ⟨B, 0, none⟩ = some (.int .i64 v.dl) := cell_of_block HB.out 0 (by simp [Vt.cells])
  have c1 : w.cell? ⟨B, 1, none⟩ = some (.int .i64 v.dh) := cell_of_block HB.out 1 (by simp [Vt.cells])
  clear hB
  unfold Vt.gas at hg
  dsimp only at hg
  have m0 := Int.mul_nonneg (show 0 ≤ v.dl by omega) (show 0 ≤ a by omega)
  have m1 : v.dl * a ≤ 1099511627776 * 10000 := Int.mul_le_mul (by omega) (by omega) (by omega) (by omega)
  have n0 := Int.mul_nonneg (show 0 ≤ v.dh by omega) (show 0 ≤ b by omega)
  have n1 : v.dh * b ≤ 1099511627776 * 10000 := Int.mul_le_mul (by omega) (by omega) (by omega) (by omega)
  have PA := Lib.hid (fun w => part_any v.dl v.dh a b 10000 w m0 (by omega) n0 (by omega) (by omega) (by omega))
  have u0 := upI_nonneg m0 (show (1 : Int) ≤ 10000 by omega)
  have u1 : upI (v.dl * a) 10000 ≤ 2000000000000000 := upI_le (by omega) (by omega)
  have u2 := Int.ediv_nonneg n0 (show (0 : Int) ≤ 10000 by omega)
  have u3 : v.dh * b / 10000 ≤ 2000000000000000 := by omega
  obtain ⟨ll, hll⟩ : ∃ x, upI (v.dl * a) 10000 = x := ⟨_, rfl⟩
  obtain ⟨lh, hlh⟩ : ∃ x, v.dh * b / 10000 = x := ⟨_, rfl⟩
  rw [hll] at u0 u1 hg
  rw [hlh] at u2 u3 hg
  simp only [hll, hlh] at PA
  clear hll hlh m0 m1 n0 n1
  have dg : decide (ll ≤ lh) = false := by simp; omega
  go_enter Try.func61, Try.ntmps61
  go_wp2_with fail
  refine (Calls.grown (PA.out _)).mono ?_
  rintro e w3 ⟨rfl, z, rfl⟩
  go_upto_region 1 with (fail)
  obtain ⟨b6, hb6⟩ : ∃ b, (gw w z).heap.size = b := ⟨_, rfl⟩
  obtain ⟨W2, hW2⟩ : ∃ W2, (gw w z).alloc (.cells #[.int .i64 ll, .int .i64 lh] 82) = W2 := ⟨_, rfl⟩
  have q6 := Lib.hid (show W2.heap[b6]? = some (.cells #[.int .i64 ll, .int .i64 lh] 82 (0, 0)) by rw [← hW2]; exact alloc_at hb6)
  have HB2 := Lib.hid (show W2.heap[B]? = some (.cells v.cells 84 (0, 0)) by rw [← hW2]; exact alloc_keep (gw_keep HB.out z))
  have BL2 := Lib.hid (show Below w.heap.size w W2 by rw [← hW2]; exact (below_gw w z).trans ((below_alloc _ _).mono (below_gw w z).size))
  have hne : B ≠ b6 := by rw [← hb6, gw_size]; omega
  have hne2 : b6 ≠ B := fun e => hne e.symm
  have hle : w.heap.size ≤ b6 := by rw [← hb6, gw_size]; omega
  try simp only [gw_size] at hb6
  try rw [hb6]
  rw [hW2]
  clear hW2 hb6 c0 c1
  have l2 := (Array.getElem?_eq_some_iff.1 HB2.out).1
  have l6 := (Array.getElem?_eq_some_iff.1 q6.out).1
  have x0 : W2.cell? ⟨b6, 0, none⟩ = some (.int .i64 ll) := cell_of_block q6.out 0 (by simp)
  have x1 : W2.cell? ⟨b6, 1, none⟩ = some (.int .i64 lh) := cell_of_block q6.out 1 (by simp)
  go_wp2_with fail
  refine (need_not _ _).mono ?_
  rintro e w4 ⟨rfl, rfl⟩
  go_wp2_with fail
  simp [bodyPost]
  exact BL2.out
end Go.Proofs.Ytfefmgadfklgmaa.L2
