/- Contract of alive: it returns true. No conditions beyond each theorem's own. -/
import Derived.Test.YtnmldophadanbaaWo
set_option linter.unusedVariables false
set_option linter.unusedSimpArgs false
set_option linter.unusedSectionVars false
set_option linter.constructorNameAsVariable false
namespace Go.Proofs.Ytnmldophadanbaa
open Go.RowKit

theorem samp_err : runErr 4 sampC sampP (fun _ => 1000) 2 = 0 := by decide
theorem samp_pot : sampC.potAt sampP (fun _ => 1000) 2 = ⟨8000, 55, 653⟩ := by rfl
theorem samp_outs : sampC.outs sampP (fun _ => 1000) 2 = [.int .i64 1000, .int .i64 266, .int .i64 520, .int .i64 1000, .int .i64 34, .int .i64 425] := by rfl

theorem row_cells {W : World} {base n : Nat} {e : TypeId} {size : Nat} {g cap : Nat} {xs : List Value} (h : W.ownsRow base e size (.slice (some ⟨g, 0, none⟩) n cap) n xs) (i : Nat) (u : Value) (hu : xs[i]? = some u) : W.cell? ⟨g, i, none⟩ = some u := by
  have := h.cells (g := g) rfl i u hu
  rw [← this]
  congr 1
  unfold Addr.add
  split
  · rename_i h0; rw [h0]
  · simp

attribute [local go_sem] gw_cell gw_frozen gw_size

set_option maxRecDepth 100000 in
set_option maxHeartbeats 4000000 in
theorem alive_any (w : World) : Calls Try.prog 16 #[] w fun e w' => e = .returned (.bool true) ∧ Below w.heap.size w w' := by
  go_enter Try.func16, Try.ntmps16
  go_wp2_with fail
  refine (sample_any w).mono ?_
  rintro e w1 ⟨b, bv, rfl, hP, hb1⟩
  have HP := Lib.hid hP; clear hP
  have HB := Lib.hid hb1; clear hb1
  go_wp2_with fail
  have hB2 : Below w1.heap.size w1 (((w1.alloc (.cells #[.slice (some ⟨b, 0, none⟩) 4 4, .slice (some ⟨bv, 0, none⟩) 4 4] 25)).alloc (.cells #[.int .i64 10000, .int .i64 1000, .int .i64 1000] 29)).alloc (.cells #[.int .i64 1000, .int .i64 1000] 3)) := (((Below.refl _ w1).alloc (Nat.le_refl _) _).alloc (by simp) _).alloc (by simp; omega) _
  have hP2 := HP.out.below hB2
  have hI : IntsAt (((w1.alloc (.cells #[.slice (some ⟨b, 0, none⟩) 4 4, .slice (some ⟨bv, 0, none⟩) 4 4] 25)).alloc (.cells #[.int .i64 10000, .int .i64 1000, .int .i64 1000] 29)).alloc (.cells #[.int .i64 1000, .int .i64 1000] 3)) (some ⟨w1.heap.size + 1 + 1, 0, none⟩) 2 (fun _ => 1000) := by
    refine .inr ⟨_, _, rfl, by simp, fun i hi => ?_⟩
    match i, hi with
    | 0, _ => simp [go_sem]
    | 1, _ => simp [go_sem]
    | i + 2, h => exact absurd h (by omega)
  refine (run_ok (some ⟨b, 0, none⟩) (some ⟨bv, 0, none⟩) (some ⟨w1.heap.size + 1 + 1, 0, none⟩) 4 4 4 2 2 sampC sampP (fun _ => 1000) _ (by decide) (by decide) (.inr ⟨b, 0, rfl, hP2.lb, hP2.ls⟩) (.inr ⟨bv, 0, rfl, hP2.vb, hP2.vs⟩) hI samp_err).mono ?_
  rintro e w2 ⟨v, rfl, hown, hb2⟩
  rw [samp_outs] at hown
  rw [samp_pot]
  obtain ⟨g, cap, rfl⟩ := ownsRow_succ hown
  have c0 := row_cells hown 0 _ rfl
  have c1 := row_cells hown 1 _ rfl
  have c2 := row_cells hown 2 _ rfl
  have c3 := row_cells hown 3 _ rfl
  have c4 := row_cells hown 4 _ rfl
  have c5 := row_cells hown 5 _ rfl
  have hg := World.block_lt_of_cell? w2 _ c0
  have HB2 := Lib.hid (HB.out.trans ((hB2.trans (hb2.mono hB2.size)).mono HB.out.size)); clear hB2 hP2 hI hown hb2
  go_wp2_with fail
  have hC := cycle_ok 1000 1000 100 250 0 400 (w2.alloc (.cells #[.int .i64 8000, .int .i64 55, .int .i64 653] 29)) (by decide) 5 (by decide) (by decide)
  rw [show cycF 1000 250 0 5 = 334 by decide, show cycRun 1000 250 0 400 5 = -1 by decide] at hC
  refine (Calls.grown hC).mono ?_
  clear hC
  rintro e w3 ⟨rfl, x, rfl⟩
  go_wp2_with fail
  go_ret
  exact ⟨rfl, (HB2.out.alloc HB2.out.size _).gw x⟩
end Go.Proofs.Ytnmldophadanbaa
