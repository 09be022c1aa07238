/- Contract of still.Draw. No conditions beyond each theorem's own. -/
import Derived.Test.YtnmldophadanbaaMa
import Derived.Test.YtnmldophadanbaaWv
import Derived.StillTailTactics
set_option linter.unusedVariables false
set_option linter.unusedSimpArgs false
set_option linter.unusedSectionVars false
set_option linter.constructorNameAsVariable false
namespace Go.Proofs.Ytnmldophadanbaa
open Go.RowKit

attribute [local go_sem] gw_cell gw_frozen gw_size

theorem drawn_own_base {w : World} {base k : Nat} {e : TypeId} {b cap : Nat} {xs : List Value} (h : w.ownsRow base e 3 (.slice (some ⟨b, 0, none⟩) k cap) k xs) (hk : 0 < k) : base ≤ b := by
  rcases h.2 with ⟨h1, h0⟩ | ⟨g, cap, cur, h1, hg, _⟩
  · omega
  · simp at h1; omega

section
variable (aL aV : Option Addr) (m cL cV : Nat) (c : Crv) (p : Pot3) (d : Int) (w : World)

/-- the world in which Draw calls Run -/
structure DB (w W : World) (aL aV : Option Addr) (n m cL cV : Nat) (v lo hi d : Int) : Prop where
  c0 : W.heap[w.heap.size + 1]? = some (.cells #[.int .i64 v, .int .i64 lo, .int .i64 hi] 29 (0, 0))
  d0 : W.heap[w.heap.size + 2]? = some (.cells #[.int .i64 0, .int .i64 0, .int .i64 0] 41 (0, 0))
  e0 : W.heap[w.heap.size + 3]? = some (.cells #[.int .i64 0, .int .i64 0, .int .i64 0] 29 (0, 0))
  s0 : W.heap[w.heap.size + 4]? = some (.cells #[.int .i64 d] 3 (0, 0))
  sz : w.heap.size + 5 ≤ W.heap.size
  low : Below w.heap.size w W

theorem db_of : DB w (((((w.alloc (.cells #[.slice aL c.n cL, .slice aV m cV] 25)).alloc (.cells #[.int .i64 p.v, .int .i64 p.lo, .int .i64 p.hi] 29)).alloc (.cells #[.int .i64 0, .int .i64 0, .int .i64 0] 41)).alloc (.cells #[.int .i64 0, .int .i64 0, .int .i64 0] 29)).alloc (.cells #[.int .i64 d] 3)) aL aV c.n m cL cV p.v p.lo p.hi d := by
  obtain ⟨z0, z1, z2, z3, z4, z5⟩ := five_blocks w (.cells #[.slice aL c.n cL, .slice aV m cV] 25) (.cells #[.int .i64 p.v, .int .i64 p.lo, .int .i64 p.hi] 29) (.cells #[.int .i64 0, .int .i64 0, .int .i64 0] 41) (.cells #[.int .i64 0, .int .i64 0, .int .i64 0] 29) (.cells #[.int .i64 d] 3)
  exact ⟨z2, z3, z4, z5, by rw [z0]; omega, (((((Below.refl _ w).alloc (Nat.le_refl _) _).alloc (by simp) _).alloc (by simp; omega) _).alloc (by simp; omega) _).alloc (by simp; omega) _⟩

theorem db_ints {w W : World} {aL aV : Option Addr} {n m cL cV : Nat} {v lo hi d : Int} (h : DB w W aL aV n m cL cV v lo hi d) : IntsAt W (some ⟨w.heap.size + 1 + 1 + 1 + 1, 0, none⟩) 1 (fun _ => d) :=
  .inr ⟨_, _, rfl, by have := h.sz; omega, fun i hi => by
    obtain rfl : i = 0 := by omega
    exact cell_of_block h.s0 0 (by simp)⟩

set_option maxRecDepth 100000 in
set_option maxHeartbeats 2000000 in
theorem drawF_err (hn : c.n ≤ 1000000000000) (hm : m ≤ 1000000000000) (hL : IntsAt w aL c.n c.L) (hV : SpansAt w aV m c.A c.B) (x : Int) (hx : runErr m c p (fun _ => d) 1 = x) (h0 : x ≠ 0) :
    Calls Try.prog 24 #[.agg #[.slice aL c.n cL, .slice aV m cV], .agg #[.int .i64 p.v, .int .i64 p.lo, .int .i64 p.hi], .int .i64 d] w fun e w' =>
      e = .returned (.tuple #[.agg #[.int .i64 0, .int .i64 0, .int .i64 0], .agg #[.int .i64 0, .int .i64 0, .int .i64 0], .int .i64 x]) ∧ Below w.heap.size w w' := by
  have hx0 : (x != 0) = true := by simpa using h0
  have HD := Lib.hid (db_of aL aV m cL cV c p d w)
  have HR := Lib.hid (fun (W : World) (hb : Below w.heap.size w W) (hI : IntsAt W (some ⟨w.heap.size + 1 + 1 + 1 + 1, 0, none⟩) 1 (fun _ => d)) => Calls.grown (run_err aL aV (some ⟨w.heap.size + 1 + 1 + 1 + 1, 0, none⟩) m cL cV 1 1 c p (fun _ => d) W hn hm (by omega) (hL.below hb) (hV.below hb) hI x hx h0))
  clear hL hV hx h0
  go_enter Try.func24, Try.ntmps24
  go_wp2_with fail
  generalize ((((w.alloc (.cells #[.slice aL c.n cL, .slice aV m cV] 25)).alloc (.cells #[.int .i64 p.v, .int .i64 p.lo, .int .i64 p.hi] 29)).alloc (.cells #[.int .i64 0, .int .i64 0, .int .i64 0] 41)).alloc (.cells #[.int .i64 0, .int .i64 0, .int .i64 0] 29)).alloc (.cells #[.int .i64 d] 3) = W at *
  refine (HR.out W HD.out.low (db_ints HD.out)).mono ?_
  clear HR
  rintro e w1 ⟨rfl, y, rfl⟩
  have K1 := (gw_block W y _ (Array.getElem?_eq_some_iff.1 HD.out.c0).1).trans HD.out.c0
  have K2 := (gw_block W y _ (Array.getElem?_eq_some_iff.1 HD.out.d0).1).trans HD.out.d0
  have K3 := (gw_block W y _ (Array.getElem?_eq_some_iff.1 HD.out.e0).1).trans HD.out.e0
  have HB := Lib.hid ((HD.out.low).gw y)
  generalize gw W y = V at *
  have p0 := cell_of_block K1 0 (by simp)
  have p1 := cell_of_block K1 1 (by simp)
  have p2 := cell_of_block K1 2 (by simp)
  have q0 := frozen_of_block K1 0
  have q1 := frozen_of_block K1 1
  have q2 := frozen_of_block K1 2
  have r0 := cell_of_block K2 0 (by simp)
  have r1 := cell_of_block K2 1 (by simp)
  have r2 := cell_of_block K2 2 (by simp)
  have s0 := frozen_of_block K2 0
  have s1 := frozen_of_block K2 1
  have s2 := frozen_of_block K2 2
  have t0 := cell_of_block K3 0 (by simp)
  have t1 := cell_of_block K3 1 (by simp)
  have t2 := cell_of_block K3 2 (by simp)
  have u0 := frozen_of_block K3 0
  have u1 := frozen_of_block K3 1
  have u2 := frozen_of_block K3 2
  simp at p0 p1 p2 r0 r1 r2 t0 t1 t2
  have K1 := Lib.hid K1
  have K2 := Lib.hid K2
  have K3 := Lib.hid K3
  go_wp2_with fail
  refine bodyPost_ret (v := .tuple #[.agg #[.int .i64 0, .int .i64 0, .int .i64 0], .agg #[.int .i64 0, .int .i64 0, .int .i64 0], .int .i64 x]) (by simp [results, Try.results24, go_sem, r0, r1, r2, t0, t1, t2]) rfl ⟨rfl, ?_⟩
  exact ((((((((HB.out.setCell (by simp) _).setCell (by simp) _).setCell (by simp) _).setCell (by simp; omega) _).setCell (by simp; omega) _).setCell (by simp; omega) _).setCell (by simp; omega) _).setCell (by simp; omega) _).setCell (by simp; omega) _
end
end Go.Proofs.Ytnmldophadanbaa
