/- Contracts of the reference's SameDrawn and Ints at equal lists. Plain law: a run that is cut in two. Contract of Heart. Contract of Heart where there is no error. Contract of still.Draw. Contract of still.Draw where there is no error. No conditions beyond each theorem its own. StillSplit: the walk of the law where it is short: too long, or an error. StillSplit: what the walk where the run goes through needs. No conditions beyond each theorem's own. -/
import Derived.Test.YtfefmgadfklgmaaGg
import Derived.Test.YtfefmgadfklgmaaGz
import Derived.StillTailTactics
import Derived.Deep.RegionHeld3
import Derived.Deep.DeepCutAuto
set_option linter.unusedVariables false
set_option linter.unusedSimpArgs false
set_option linter.unusedSectionVars false
set_option linter.constructorNameAsVariable false

namespace Go.Proofs.Ytfefmgadfklgmaa.L4
open Go.RowKit

attribute [local go_sem] gw_cell gw_frozen gw_size

section
variable (aL aV aM : Option Addr) (m cL cV k cM : Nat) (c : Crv) (p : Pot3) (M : Nat → Int) (f t : Int) (w : World)

end
end Go.Proofs.Ytfefmgadfklgmaa.L4

namespace Go.Proofs.Ytfefmgadfklgmaa.L4
open Go.RowKit

attribute [local go_sem] gw_cell gw_frozen gw_size

theorem drawn_of_own' {w : World} {base k : Nat} {e : TypeId} {c : Crv} {p : Pot3} {M : Nat → Int} {v : Value} (h : w.ownsRow base e 3 v k (c.outs p M k)) (hk : 0 < k) : ∃ b cap, v = .slice (some ⟨b, 0, none⟩) k cap ∧ k ≤ cap ∧ cap ≤ maxLen ∧ b < w.heap.size ∧ ∀ i, i < k → w.cell? ⟨b, 0 + i * 3, none⟩ = some (.int .i64 (c.outAt p M i).d) ∧ w.cell? ⟨b, 0 + i * 3 + 1, none⟩ = some (.int .i64 (c.outAt p M i).lo) ∧ w.cell? ⟨b, 0 + i * 3 + 2, none⟩ = some (.int .i64 (c.outAt p M i).hi) := by
  rcases h.2 with ⟨rfl, h0⟩ | ⟨g, cap, cur, rfl, hg, hgb, h1, h2, _⟩
  · omega
  · refine ⟨g, cap, rfl, h1, h2, (Array.getElem?_eq_some_iff.1 hgb).1, fun i hi => ?_⟩
    obtain ⟨q1, q2, q3⟩ := outs_get c p M k i hi
    simp only [Nat.zero_add]
    exact ⟨row_cells h _ _ q1, row_cells h _ _ q2, row_cells h _ _ q3⟩

end Go.Proofs.Ytfefmgadfklgmaa.L4

namespace Go.Proofs.Ytfefmgadfklgmaa.L4
open Go.RowKit

attribute [local go_sem] gw_cell gw_frozen gw_size

theorem drawn_own_base {w : World} {base k : Nat} {e : TypeId} {b cap : Nat} {xs : List Value} (h : w.ownsRow base e 3 (.slice (some ⟨b, 0, none⟩) k cap) k xs) (hk : 0 < k) : base ≤ b := by
  rcases h.2 with ⟨h1, h0⟩ | ⟨g, cap, cur, h1, hg, _⟩
  · omega
  · simp at h1; omega

section
variable (aL aV : Option Addr) (m cL cV : Nat) (c : Crv) (p : Pot3) (d : Int) (w : World)

/-- the world in which Draw calls Run -/
structure DB (w W : World) (aL aV : Option Addr) (n m cL cV : Nat) (v lo hi d : Int) : Prop where
  c0 : W.heap[w.heap.size + 1]? = some (.cells #[.int .i64 v, .int .i64 lo, .int .i64 hi] 58 (0, 0))
  d0 : W.heap[w.heap.size + 2]? = some (.cells #[.int .i64 0, .int .i64 0, .int .i64 0] 63 (0, 0))
  e0 : W.heap[w.heap.size + 3]? = some (.cells #[.int .i64 0, .int .i64 0, .int .i64 0] 58 (0, 0))
  s0 : W.heap[w.heap.size + 4]? = some (.cells #[.int .i64 d] 3 (0, 0))
  sz : w.heap.size + 5 ≤ W.heap.size
  low : Below w.heap.size w W

theorem db_of : DB w (((((w.alloc (.cells #[.slice aL c.n cL, .slice aV m cV] 34)).alloc (.cells #[.int .i64 p.v, .int .i64 p.lo, .int .i64 p.hi] 58)).alloc (.cells #[.int .i64 0, .int .i64 0, .int .i64 0] 63)).alloc (.cells #[.int .i64 0, .int .i64 0, .int .i64 0] 58)).alloc (.cells #[.int .i64 d] 3)) aL aV c.n m cL cV p.v p.lo p.hi d := by
  obtain ⟨z0, z1, z2, z3, z4, z5⟩ := five_blocks w (.cells #[.slice aL c.n cL, .slice aV m cV] 34) (.cells #[.int .i64 p.v, .int .i64 p.lo, .int .i64 p.hi] 58) (.cells #[.int .i64 0, .int .i64 0, .int .i64 0] 63) (.cells #[.int .i64 0, .int .i64 0, .int .i64 0] 58) (.cells #[.int .i64 d] 3)
  exact ⟨z2, z3, z4, z5, by rw [z0]; omega, (((((Below.refl _ w).alloc (Nat.le_refl _) _).alloc (by simp) _).alloc (by simp; omega) _).alloc (by simp; omega) _).alloc (by simp; omega) _⟩

theorem db_ints {w W : World} {aL aV : Option Addr} {n m cL cV : Nat} {v lo hi d : Int} (h : DB w W aL aV n m cL cV v lo hi d) : IntsAt W (some ⟨w.heap.size + 1 + 1 + 1 + 1, 0, none⟩) 1 (fun _ => d) :=
  .inr ⟨_, _, rfl, by have := h.sz; omega, fun i hi => by
    obtain rfl : i = 0 := by omega
    exact cell_of_block h.s0 0 (by simp)⟩

set_option maxRecDepth 100000 in
set_option maxHeartbeats 2000000 in
theorem drawF_err (hn : c.n ≤ 1000000000000) (hm : m ≤ 1000000000000) (hL : IntsAt w aL c.n c.L) (hV : SpansAt w aV m c.A c.B) (x : Int) (hx : runErr m c p (fun _ => d) 1 = x) (h0 : x ≠ 0) :
    Calls Try.prog 19 #[.agg #[.slice aL c.n cL, .slice aV m cV], .agg #[.int .i64 p.v, .int .i64 p.lo, .int .i64 p.hi], .int .i64 d] w fun e w' =>
      e = .returned (.tuple #[.agg #[.int .i64 0, .int .i64 0, .int .i64 0], .agg #[.int .i64 0, .int .i64 0, .int .i64 0], .int .i64 x]) ∧ Below w.heap.size w w' := by
  have hx0 : (x != 0) = true := by simpa using h0
  have HD := Lib.hid (db_of aL aV m cL cV c p d w)
  have HR := Lib.hid (fun (W : World) (hb : Below w.heap.size w W) (hI : IntsAt W (some ⟨w.heap.size + 1 + 1 + 1 + 1, 0, none⟩) 1 (fun _ => d)) => Calls.grown (run_err aL aV (some ⟨w.heap.size + 1 + 1 + 1 + 1, 0, none⟩) m cL cV 1 1 c p (fun _ => d) W hn hm (by omega) (hL.below hb) (hV.below hb) hI x hx h0))
  clear hL hV hx h0
  go_enter Try.func19, Try.ntmps19
  go_wp2_with fail
  generalize ((((w.alloc (.cells #[.slice aL c.n cL, .slice aV m cV] 34)).alloc (.cells #[.int .i64 p.v, .int .i64 p.lo, .int .i64 p.hi] 58)).alloc (.cells #[.int .i64 0, .int .i64 0, .int .i64 0] 63)).alloc (.cells #[.int .i64 0, .int .i64 0, .int .i64 0] 58)).alloc (.cells #[.int .i64 d] 3) = W at *
  refine (HR.out W HD.out.low (db_ints HD.out)).mono ?_
  clear HR
  rintro e w1 ⟨rfl, y, rfl⟩
  have K1 := (gw_block W y _ (Array.getElem?_eq_some_iff.1 HD.out.c0).1).trans HD.out.c0
  have K2 := (gw_block W y _ (Array.getElem?_eq_some_iff.1 HD.out.d0).1).trans HD.out.d0
  have K3 := (gw_block W y _ (Array.getElem?_eq_some_iff.1 HD.out.e0).1).trans HD.out.e0
  have HB := Lib.hid ((HD.out.low).gw y)
  generalize gw W y = V at *
  have p0 := cell_of_block K1 0 (by simp)
  have p1 := cell_of_block K1 1 (by simp)
  have p2 := cell_of_block K1 2 (by simp)
  have q0 := frozen_of_block K1 0
  have q1 := frozen_of_block K1 1
  have q2 := frozen_of_block K1 2
  have r0 := cell_of_block K2 0 (by simp)
  have r1 := cell_of_block K2 1 (by simp)
  have r2 := cell_of_block K2 2 (by simp)
  have s0 := frozen_of_block K2 0
  have s1 := frozen_of_block K2 1
  have s2 := frozen_of_block K2 2
  have t0 := cell_of_block K3 0 (by simp)
  have t1 := cell_of_block K3 1 (by simp)
  have t2 := cell_of_block K3 2 (by simp)
  have u0 := frozen_of_block K3 0
  have u1 := frozen_of_block K3 1
  have u2 := frozen_of_block K3 2
  simp at p0 p1 p2 r0 r1 r2 t0 t1 t2
  have K1 := Lib.hid K1
  have K2 := Lib.hid K2
  have K3 := Lib.hid K3
  go_wp2_with fail
  refine bodyPost_ret (v := .tuple #[.agg #[.int .i64 0, .int .i64 0, .int .i64 0], .agg #[.int .i64 0, .int .i64 0, .int .i64 0], .int .i64 x]) (by simp [results, Try.results19, go_sem, r0, r1, r2, t0, t1, t2]) rfl ⟨rfl, ?_⟩
  exact ((((((((HB.out.setCell (by simp) _).setCell (by simp) _).setCell (by simp) _).setCell (by simp; omega) _).setCell (by simp; omega) _).setCell (by simp; omega) _).setCell (by simp; omega) _).setCell (by simp; omega) _).setCell (by simp; omega) _
end
end Go.Proofs.Ytfefmgadfklgmaa.L4

namespace Go.Proofs.Ytfefmgadfklgmaa.L4
open Go.RowKit

attribute [local go_sem] gw_cell gw_frozen gw_size

section
variable (aL aV : Option Addr) (m cL cV : Nat) (c : Crv) (p : Pot3) (d : Int) (w : World)

set_option maxRecDepth 100000 in
set_option maxHeartbeats 2000000 in
theorem drawF_ok (hn : c.n ≤ 1000000000000) (hm : m ≤ 1000000000000) (hL : IntsAt w aL c.n c.L) (hV : SpansAt w aV m c.A c.B) (hx : runErr m c p (fun _ => d) 1 = 0) (X : Dr3) (Y : Pot3) (eX : X = c.outAt p (fun _ => d) 0) (eY : Y = c.potAt p (fun _ => d) 1) :
    Calls Try.prog 19 #[.agg #[.slice aL c.n cL, .slice aV m cV], .agg #[.int .i64 p.v, .int .i64 p.lo, .int .i64 p.hi], .int .i64 d] w fun e w' =>
      e = .returned (.tuple #[.agg #[.int .i64 X.d, .int .i64 X.lo, .int .i64 X.hi], .agg #[.int .i64 Y.v, .int .i64 Y.lo, .int .i64 Y.hi], .int .i64 0]) ∧ Below w.heap.size w w' := by
  have HD := Lib.hid (db_of aL aV m cL cV c p d w)
  have HR := Lib.hid (fun (W : World) (hb : Below w.heap.size w W) (hI : IntsAt W (some ⟨w.heap.size + 1 + 1 + 1 + 1, 0, none⟩) 1 (fun _ => d)) => run_ok aL aV (some ⟨w.heap.size + 1 + 1 + 1 + 1, 0, none⟩) m cL cV 1 1 c p (fun _ => d) W hn hm (hL.below hb) (hV.below hb) hI hx)
  rw [← eY] at HR
  have EX := Lib.hid eX
  clear hL hV hx eX eY
  go_enter Try.func19, Try.ntmps19
  go_wp2_with fail
  generalize ((((w.alloc (.cells #[.slice aL c.n cL, .slice aV m cV] 34)).alloc (.cells #[.int .i64 p.v, .int .i64 p.lo, .int .i64 p.hi] 58)).alloc (.cells #[.int .i64 0, .int .i64 0, .int .i64 0] 63)).alloc (.cells #[.int .i64 0, .int .i64 0, .int .i64 0] 58)).alloc (.cells #[.int .i64 d] 3) = W at *
  refine (HR.out W HD.out.low (db_ints HD.out)).mono ?_
  clear HR
  rintro e V ⟨vl, rfl, hown, hb1⟩
  obtain ⟨b, cap, rfl, cap1, cap2, lb, hD⟩ := drawn_of_own' hown (by omega)
  have bb := drawn_own_base hown (by omega)
  have sz := HD.out.sz
  have ne1 : b ≠ w.heap.size + 1 := by omega
  have ne2 : b ≠ w.heap.size + 1 + 1 := by omega
  have ne3 : b ≠ w.heap.size + 1 + 1 + 1 := by omega
  clear bb sz
  obtain ⟨l0, l1, l2⟩ := hD 0 (by omega)
  rw [← EX.out] at l0 l1 l2
  simp at l0 l1 l2
  clear hD hown
  have K1 := (hb1.block _ (Array.getElem?_eq_some_iff.1 HD.out.c0).1).trans HD.out.c0
  have K2 := (hb1.block _ (Array.getElem?_eq_some_iff.1 HD.out.d0).1).trans HD.out.d0
  have K3 := (hb1.block _ (Array.getElem?_eq_some_iff.1 HD.out.e0).1).trans HD.out.e0
  have HB := Lib.hid (thru hb1 HD.out.low)
  clear hb1
  have p0 := cell_of_block K1 0 (by simp)
  have p1 := cell_of_block K1 1 (by simp)
  have p2 := cell_of_block K1 2 (by simp)
  have q0 := frozen_of_block K1 0
  have q1 := frozen_of_block K1 1
  have q2 := frozen_of_block K1 2
  have r0 := cell_of_block K2 0 (by simp)
  have r1 := cell_of_block K2 1 (by simp)
  have r2 := cell_of_block K2 2 (by simp)
  have s0 := frozen_of_block K2 0
  have s1 := frozen_of_block K2 1
  have s2 := frozen_of_block K2 2
  have t0 := cell_of_block K3 0 (by simp)
  have t1 := cell_of_block K3 1 (by simp)
  have t2 := cell_of_block K3 2 (by simp)
  have u0 := frozen_of_block K3 0
  have u1 := frozen_of_block K3 1
  have u2 := frozen_of_block K3 2
  simp at p0 p1 p2 r0 r1 r2 t0 t1 t2
  have K1 := Lib.hid K1
  have K2 := Lib.hid K2
  have K3 := Lib.hid K3
  go_wp2_with fail
  go_region
  all_goals
    go_wp2_with fail
    refine bodyPost_ret (v := .tuple #[.agg #[.int .i64 X.d, .int .i64 X.lo, .int .i64 X.hi], .agg #[.int .i64 Y.v, .int .i64 Y.lo, .int .i64 Y.hi], .int .i64 0]) (by simp [results, Try.results19, go_sem, r0, r1, r2, t0, t1, t2]) rfl ⟨rfl, ?_⟩
    exact (((((((((HB.out.setCell (by simp) _).setCell (by simp) _).setCell (by simp) _).setCell (by simp; omega) _).setCell (by simp; omega) _).setCell (by simp; omega) _).setCell (by simp; omega) _).setCell (by simp; omega) _).setCell (by simp; omega) _).drew
end
end Go.Proofs.Ytfefmgadfklgmaa.L4

namespace Go.Proofs.Ytfefmgadfklgmaa.L4
open Go.RowKit Go.Deep

attribute [local go_sem] gw_cell gw_frozen gw_size

section
variable {X : Dr3} {Y : Pot3} {V w1 : World} {t : TypeId} (hb : Below V.heap.size V w1) {a0 a1 a2 b0 b1 b2 : Value}
include hb
variable (X Y t) in
end
end Go.Proofs.Ytfefmgadfklgmaa.L4
