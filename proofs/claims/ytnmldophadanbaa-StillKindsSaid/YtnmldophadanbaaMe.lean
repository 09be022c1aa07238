/- Contract of still.Draw where there is no error. No conditions beyond each theorem its own. -/
import Derived.Test.YtnmldophadanbaaMb
set_option linter.unusedVariables false
set_option linter.unusedSimpArgs false
set_option linter.unusedSectionVars false
set_option linter.constructorNameAsVariable false
namespace Go.Proofs.Ytnmldophadanbaa
open Go.RowKit

attribute [local go_sem] gw_cell gw_frozen gw_size

section
variable (aL aV : Option Addr) (m cL cV : Nat) (c : Crv) (p : Pot3) (d : Int) (w : World)

set_option maxRecDepth 100000 in
set_option maxHeartbeats 2000000 in
theorem drawF_ok (hn : c.n ≤ 1000000000000) (hm : m ≤ 1000000000000) (hL : IntsAt w aL c.n c.L) (hV : SpansAt w aV m c.A c.B) (hx : runErr m c p (fun _ => d) 1 = 0) (X : Dr3) (Y : Pot3) (eX : X = c.outAt p (fun _ => d) 0) (eY : Y = c.potAt p (fun _ => d) 1) :
    Calls Try.prog 24 #[.agg #[.slice aL c.n cL, .slice aV m cV], .agg #[.int .i64 p.v, .int .i64 p.lo, .int .i64 p.hi], .int .i64 d] w fun e w' =>
      e = .returned (.tuple #[.agg #[.int .i64 X.d, .int .i64 X.lo, .int .i64 X.hi], .agg #[.int .i64 Y.v, .int .i64 Y.lo, .int .i64 Y.hi], .int .i64 0]) ∧ Below w.heap.size w w' := by
  have HD := Lib.hid (db_of aL aV m cL cV c p d w)
  have HR := Lib.hid (fun (W : World) (hb : Below w.heap.size w W) (hI : IntsAt W (some ⟨w.heap.size + 1 + 1 + 1 + 1, 0, none⟩) 1 (fun _ => d)) => run_ok aL aV (some ⟨w.heap.size + 1 + 1 + 1 + 1, 0, none⟩) m cL cV 1 1 c p (fun _ => d) W hn hm (hL.below hb) (hV.below hb) hI hx)
  rw [← eY] at HR
  have EX := Lib.hid eX
  clear hL hV hx eX eY
  go_enter Try.func24, Try.ntmps24
  go_wp2_with fail
  generalize ((((w.alloc (.cells #[.slice aL c.n cL, .slice aV m cV] 25)).alloc (.cells #[.int .i64 p.v, .int .i64 p.lo, .int .i64 p.hi] 29)).alloc (.cells #[.int .i64 0, .int .i64 0, .int .i64 0] 41)).alloc (.cells #[.int .i64 0, .int .i64 0, .int .i64 0] 29)).alloc (.cells #[.int .i64 d] 3) = W at *
  refine (HR.out W HD.out.low (db_ints HD.out)).mono ?_
  clear HR
  rintro e V ⟨vl, rfl, hown, hb1⟩
  obtain ⟨b, cap, rfl, cap1, cap2, lb, hD⟩ := drawn_of_own' hown (by omega)
  have bb := drawn_own_base hown (by omega)
  have sz := HD.out.sz
  have ne1 : b ≠ w.heap.size + 1 := by omega
  have ne2 : b ≠ w.heap.size + 1 + 1 := by omega
  have ne3 : b ≠ w.heap.size + 1 + 1 + 1 := by omega
  clear bb sz
  obtain ⟨l0, l1, l2⟩ := hD 0 (by omega)
  rw [← EX.out] at l0 l1 l2
  simp at l0 l1 l2
  clear hD hown
  have K1 := (hb1.block _ (Array.getElem?_eq_some_iff.1 HD.out.c0).1).trans HD.out.c0
  have K2 := (hb1.block _ (Array.getElem?_eq_some_iff.1 HD.out.d0).1).trans HD.out.d0
  have K3 := (hb1.block _ (Array.getElem?_eq_some_iff.1 HD.out.e0).1).trans HD.out.e0
  have HB := Lib.hid (thru hb1 HD.out.low)
  clear hb1
  have p0 := cell_of_block K1 0 (by simp)
  have p1 := cell_of_block K1 1 (by simp)
  have p2 := cell_of_block K1 2 (by simp)
  have q0 := frozen_of_block K1 0
  have q1 := frozen_of_block K1 1
  have q2 := frozen_of_block K1 2
  have r0 := cell_of_block K2 0 (by simp)
  have r1 := cell_of_block K2 1 (by simp)
  have r2 := cell_of_block K2 2 (by simp)
  have s0 := frozen_of_block K2 0
  have s1 := frozen_of_block K2 1
  have s2 := frozen_of_block K2 2
  have t0 := cell_of_block K3 0 (by simp)
  have t1 := cell_of_block K3 1 (by simp)
  have t2 := cell_of_block K3 2 (by simp)
  have u0 := frozen_of_block K3 0
  have u1 := frozen_of_block K3 1
  have u2 := frozen_of_block K3 2
  simp at p0 p1 p2 r0 r1 r2 t0 t1 t2
  have K1 := Lib.hid K1
  have K2 := Lib.hid K2
  have K3 := Lib.hid K3
  go_wp2_with fail
  go_region
  all_goals
    go_wp2_with fail
    refine bodyPost_ret (v := .tuple #[.agg #[.int .i64 X.d, .int .i64 X.lo, .int .i64 X.hi], .agg #[.int .i64 Y.v, .int .i64 Y.lo, .int .i64 Y.hi], .int .i64 0]) (by simp [results, Try.results24, go_sem, r0, r1, r2, t0, t1, t2]) rfl ⟨rfl, ?_⟩
    exact (((((((((HB.out.setCell (by simp) _).setCell (by simp) _).setCell (by simp) _).setCell (by simp; omega) _).setCell (by simp; omega) _).setCell (by simp; omega) _).setCell (by simp; omega) _).setCell (by simp; omega) _).setCell (by simp; omega) _).drew
end
end Go.Proofs.Ytnmldophadanbaa
