/- StillNames walked: it returns true. No conditions beyond each theorem's own. -/
import Derived.Test.YticgkhoidgkejaaNl
import Derived.Test.YticgkhoidgkejaaMn
import Derived.Test.YticgkhoidgkejaaMo
set_option linter.unusedVariables false
set_option linter.unusedSimpArgs false
set_option linter.unusedSectionVars false
set_option linter.constructorNameAsVariable false
namespace Go.Proofs.Yticgkhoidgkejaa
open Go.RowKit

attribute [local go_sem] gw_cell gw_frozen gw_size

theorem alloc_keep {w : World} {o q : Obj} {k : Nat} (h : w.heap[k]? = some q) : (w.alloc o).heap[k]? = some q := ((below_alloc w o).block k (Array.getElem?_eq_some_iff.1 h).1).trans h
theorem alloc_at {w : World} {o : Obj} {k : Nat} (h : w.heap.size = k) : (w.alloc o).heap[k]? = some o := by subst h; exact World.alloc_heap_new w o
theorem ints_lit {w : World} {b : Nat} {x y : Int} {T : TypeId} {D : Nat → Int} (h : w.heap[b]? = some (.cells #[.int .i64 x, .int .i64 y] T (0, 0))) (hD : ∀ j, j < 2 → D j = [x, y].getD j 0) : IntsAt w (some ⟨b, 0, none⟩) 2 D := by
  refine .inr ⟨b, 0, rfl, (Array.getElem?_eq_some_iff.1 h).1, fun j hj => ?_⟩
  rw [hD j hj]
  rcases (by omega : j = 0 ∨ j = 1) with rfl | rfl
  · exact cell_of_block h 0 (by simp)
  · exact cell_of_block h 1 (by simp)
theorem countI_is {q : Nat → Int} {t : Int} (j : Nat) (hj : j ≤ 100) (h1 : ∀ k, k < j → q k < t) (h2 : t ≤ q j) : countI q t = j := by
  rcases countI_cases q t with ⟨i, hi, e, a, c⟩ | ⟨e, a⟩
  · rcases Nat.lt_trichotomy i j with h | rfl | h
    · exact absurd (h1 i h) (by omega)
    · exact e
    · exact absurd (a j h) (by omega)
  · exact absurd (a j (by omega)) (by omega)
def fh : Int → Int := fun x => vapHi sampC.L sampC.B 4 x
def fl : Int → Int := fun x => vapLo sampC.L sampC.A 4 x
theorem sq_h0 : seqI fh 1000 0 = 1000 := by rfl
theorem sq_h1 : seqI fh 1000 1 = 5200 := by show fh (seqI fh 1000 0) = _; rw [sq_h0]; kernel_rfl
theorem sq_h2 : seqI fh 1000 2 = 8176 := by show fh (seqI fh 1000 1) = _; rw [sq_h1]; kernel_rfl
theorem sq_h3 : seqI fh 1000 3 = 9307 := by show fh (seqI fh 1000 2) = _; rw [sq_h2]; kernel_rfl
theorem sq_h4 : seqI fh 1000 4 = 9737 := by show fh (seqI fh 1000 3) = _; rw [sq_h3]; kernel_rfl
theorem sq_l0 : seqI fl 1000 0 = 1000 := by rfl
theorem sq_l1 : seqI fl 1000 1 = 5000 := by show fl (seqI fl 1000 0) = _; rw [sq_l0]; kernel_rfl
theorem sq_l2 : seqI fl 1000 2 = 8000 := by show fl (seqI fl 1000 1) = _; rw [sq_l1]; kernel_rfl
theorem sq_l3 : seqI fl 1000 3 = 9200 := by show fl (seqI fl 1000 2) = _; rw [sq_l2]; kernel_rfl
theorem sq_l4 : seqI fl 1000 4 = 9680 := by show fl (seqI fl 1000 3) = _; rw [sq_l3]; kernel_rfl
theorem ct_h1 : countI (seqI fh 1000) 9000 = 3 := countI_is 3 (by omega) (fun k hk => by rcases (by omega : k = 0 ∨ k = 1 ∨ k = 2) with rfl | rfl | rfl <;> first | (rw [sq_h0]; omega) | (rw [sq_h1]; omega) | (rw [sq_h2]; omega)) (by rw [sq_h3]; omega)
theorem ct_l1 : countI (seqI fl 1000) 9000 = 3 := countI_is 3 (by omega) (fun k hk => by rcases (by omega : k = 0 ∨ k = 1 ∨ k = 2) with rfl | rfl | rfl <;> first | (rw [sq_l0]; omega) | (rw [sq_l1]; omega) | (rw [sq_l2]; omega)) (by rw [sq_l3]; omega)
theorem ct_h2 : countI (seqI fh 1000) 9250 = 3 := countI_is 3 (by omega) (fun k hk => by rcases (by omega : k = 0 ∨ k = 1 ∨ k = 2) with rfl | rfl | rfl <;> first | (rw [sq_h0]; omega) | (rw [sq_h1]; omega) | (rw [sq_h2]; omega)) (by rw [sq_h3]; omega)
theorem ct_l2 : countI (seqI fl 1000) 9250 = 4 := countI_is 4 (by omega) (fun k hk => by rcases (by omega : k = 0 ∨ k = 1 ∨ k = 2 ∨ k = 3) with rfl | rfl | rfl | rfl <;> first | (rw [sq_l0]; omega) | (rw [sq_l1]; omega) | (rw [sq_l2]; omega) | (rw [sq_l3]; omega)) (by rw [sq_l4]; omega)
theorem ca_v0 (b bv : Nat) (W : World) (P : Pts W b 0 bv 0 4 sampC.L sampC.A sampC.B) : Calls Try.prog 5 #[.agg #[.slice (some ⟨b, 0, none⟩) 4 4, .slice (some ⟨bv, 0, none⟩) 4 4], .agg #[.int .i64 1000, .int .i64 1000]] W fun e w' => e = .returned (.tuple #[.agg #[.int .i64 5000, .int .i64 5200], .int .i64 0]) ∧ Below W.heap.size W w' :=
  vapourP_ok (some ⟨b, 0, none⟩) (some ⟨bv, 0, none⟩) 4 4 4 sampC.L sampC.A sampC.B 1000 1000 W (by omega) (.inr ⟨b, 0, rfl, P.lb, P.ls⟩) (.inr ⟨bv, 0, rfl, P.vb, P.vs⟩) (by kernel_rfl) (by kernel_rfl) 5000 5200 (Lib.hid (by kernel_rfl)) (Lib.hid (by kernel_rfl))
theorem ca_v1 (b bv : Nat) (W : World) (P : Pts W b 0 bv 0 4 sampC.L sampC.A sampC.B) : Calls Try.prog 5 #[.agg #[.slice (some ⟨b, 0, none⟩) 4 4, .slice (some ⟨bv, 0, none⟩) 4 4], .agg #[.int .i64 3000, .int .i64 3000]] W fun e w' => e = .returned (.tuple #[.agg #[.int .i64 6500, .int .i64 6650], .int .i64 0]) ∧ Below W.heap.size W w' :=
  vapourP_ok (some ⟨b, 0, none⟩) (some ⟨bv, 0, none⟩) 4 4 4 sampC.L sampC.A sampC.B 3000 3000 W (by omega) (.inr ⟨b, 0, rfl, P.lb, P.ls⟩) (.inr ⟨bv, 0, rfl, P.vb, P.vs⟩) (by kernel_rfl) (by kernel_rfl) 6500 6650 (Lib.hid (by kernel_rfl)) (Lib.hid (by kernel_rfl))
theorem ca_v2 (b bv : Nat) (W : World) (P : Pts W b 0 bv 0 4 sampC.L sampC.A sampC.B) : Calls Try.prog 5 #[.agg #[.slice (some ⟨b, 0, none⟩) 4 4, .slice (some ⟨bv, 0, none⟩) 4 4], .agg #[.int .i64 500, .int .i64 1000]] W fun e w' => e = .returned (.tuple #[.agg #[.int .i64 2500, .int .i64 5200], .int .i64 0]) ∧ Below W.heap.size W w' :=
  vapourP_ok (some ⟨b, 0, none⟩) (some ⟨bv, 0, none⟩) 4 4 4 sampC.L sampC.A sampC.B 500 1000 W (by omega) (.inr ⟨b, 0, rfl, P.lb, P.ls⟩) (.inr ⟨bv, 0, rfl, P.vb, P.vs⟩) (by kernel_rfl) (by kernel_rfl) 2500 5200 (Lib.hid (by kernel_rfl)) (Lib.hid (by kernel_rfl))
def drX : Dr3 := sampC.outAt sampP (fun _ => 1000) 0
theorem ca_d (b bv : Nat) (W : World) (P : Pts W b 0 bv 0 4 sampC.L sampC.A sampC.B) : Calls Try.prog 6 #[.agg #[.slice (some ⟨b, 0, none⟩) 4 4, .slice (some ⟨bv, 0, none⟩) 4 4], .agg #[.int .i64 10000, .int .i64 1000, .int .i64 1000], .int .i64 1000] W fun e w' => e = .returned (.tuple #[.agg #[.int .i64 drX.d, .int .i64 drX.lo, .int .i64 drX.hi], .agg #[.int .i64 9000, .int .i64 480, .int .i64 734], .int .i64 0]) ∧ Below W.heap.size W w' :=
  drawF_ok (some ⟨b, 0, none⟩) (some ⟨bv, 0, none⟩) 4 4 4 sampC sampP 1000 W (by decide) (by omega) (.inr ⟨b, 0, rfl, P.lb, P.ls⟩) (.inr ⟨bv, 0, rfl, P.vb, P.vs⟩) (by kernel_rfl) drX ⟨9000, 480, 734⟩ rfl (by kernel_rfl)
theorem ca_c (b bv : Nat) (W : World) (P : Pts W b 0 bv 0 4 sampC.L sampC.A sampC.B) (a : Option Addr) (hM : IntsAt W a 2 (fun _ => 1000)) : Calls Try.prog 7 #[.agg #[.slice (some ⟨b, 0, none⟩) 4 4, .slice (some ⟨bv, 0, none⟩) 4 4], .agg #[.int .i64 10000, .int .i64 1000, .int .i64 1000], .slice a 2 2, .int .i64 0, .int .i64 4000, .int .i64 1000] W fun e w' => ∃ a' c', e = .returned (.tuple #[.slice a' 2 c', .int .i64 0]) ∧ IntsAt w' a' 2 (fun j => [6, 14].getD j 0) ∧ Below W.heap.size W w' := by
  refine (cuts_ok (some ⟨b, 0, none⟩) (some ⟨bv, 0, none⟩) a 4 4 4 2 2 sampC sampP (fun _ => 1000) 0 4000 1000 W (by decide) (by omega) (.inr ⟨b, 0, rfl, P.lb, P.ls⟩) (.inr ⟨bv, 0, rfl, P.vb, P.vs⟩) hM (by kernel_rfl)).mono ?_
  rintro e w' ⟨v, rfl, own, hb⟩
  obtain ⟨a', c', rfl, l⟩ := ints_of_own own
  refine ⟨a', c', rfl, ?_, hb⟩
  have e0 : cutAt (sampC.outAt sampP (fun _ => 1000)) 0 4000 1000 0 = 6 := by kernel_rfl
  have e1 : cutAt (sampC.outAt sampP (fun _ => 1000)) 0 4000 1000 1 = 14 := by kernel_rfl
  rcases l with h | ⟨g, o, rfl, hg, hc⟩
  · omega
  refine .inr ⟨g, o, rfl, hg, fun j hj => ?_⟩
  rw [hc j hj]
  rcases (by omega : j = 0 ∨ j = 1) with rfl | rfl
  · rw [e0]; rfl
  · rw [e1]; rfl
theorem ca_y (W : World) : Calls Try.prog 8 #[.agg #[.int .i64 1000, .int .i64 1000], .agg #[.int .i64 100, .int .i64 250], .int .i64 0, .int .i64 300] W fun e w' => e = .returned (.tuple #[.int .i64 313, .int .i64 2, .int .i64 0]) ∧ Below W.heap.size W w' := by
  have h := cycle_ok 1000 1000 100 250 0 300 W (by decide) 2 (by decide) (by decide)
  rw [show cycF 1000 250 0 2 = 313 by decide, show cycRun 1000 250 0 300 2 = 2 by decide] at h
  exact h
theorem ca_w (W : World) : Calls Try.prog 9 #[.agg #[.int .i64 10000, .int .i64 10100], .agg #[.int .i64 5, .int .i64 10], .int .i64 9000] W fun e w' => e = .returned (.tuple #[.int .i64 100, .int .i64 220, .int .i64 0]) ∧ Below W.heap.size W w' :=
  wear_any 10000 10100 5 10 9000 W 0 (by kernel_rfl)
theorem ca_p0 (b bv : Nat) (W : World) (P : Pts W b 0 bv 0 4 sampC.L sampC.A sampC.B) : Calls Try.prog 10 #[.agg #[.slice (some ⟨b, 0, none⟩) 4 4, .slice (some ⟨bv, 0, none⟩) 4 4], .int .i64 1000, .int .i64 9000] W fun e w' => e = .returned (.tuple #[.int .i64 3, .int .i64 3, .int .i64 0]) ∧ Below W.heap.size W w' :=
  (plates_ok (some ⟨b, 0, none⟩) (some ⟨bv, 0, none⟩) 4 4 4 4 sampC.L sampC.A sampC.B 1000 9000 W (by omega) (by omega) (.inr ⟨b, 0, rfl, P.lb, P.ls⟩) (.inr ⟨bv, 0, rfl, P.vb, P.vs⟩) (by kernel_rfl) 3 3 ⟨ct_h1⟩ ⟨ct_l1⟩).mono fun e w' h => ⟨h.1, h.2⟩
theorem ca_p1 (b bv : Nat) (W : World) (P : Pts W b 0 bv 0 4 sampC.L sampC.A sampC.B) : Calls Try.prog 10 #[.agg #[.slice (some ⟨b, 0, none⟩) 4 4, .slice (some ⟨bv, 0, none⟩) 4 4], .int .i64 1000, .int .i64 9250] W fun e w' => e = .returned (.tuple #[.int .i64 3, .int .i64 4, .int .i64 0]) ∧ Below W.heap.size W w' :=
  (plates_ok (some ⟨b, 0, none⟩) (some ⟨bv, 0, none⟩) 4 4 4 4 sampC.L sampC.A sampC.B 1000 9250 W (by omega) (by omega) (.inr ⟨b, 0, rfl, P.lb, P.ls⟩) (.inr ⟨bv, 0, rfl, P.vb, P.vs⟩) (by kernel_rfl) 3 4 ⟨ct_h2⟩ ⟨ct_l2⟩).mono fun e w' h => ⟨h.1, h.2⟩
set_option maxRecDepth 100000 in
set_option maxHeartbeats 16000000 in
theorem names_any (w : World) : Calls Try.prog 3 #[] w (True1 w) := by
  go_enter Try.func3, Try.ntmps3
  go_wp2_with fail
  refine (sample_any w).mono ?_
  rintro e W1 ⟨b, bv, rfl, P, hb⟩
  have HBc := Lib.hid hb; clear hb
  have PP := Lib.hid P; clear P
  have V0' := Lib.hid (fun W (hb : Below W1.heap.size W1 W) => ca_v0 b bv W (PP.out.below hb))
  have V1' := Lib.hid (fun W (hb : Below W1.heap.size W1 W) => ca_v1 b bv W (PP.out.below hb))
  have V2' := Lib.hid (fun W (hb : Below W1.heap.size W1 W) => ca_v2 b bv W (PP.out.below hb))
  have D' := Lib.hid (fun W (hb : Below W1.heap.size W1 W) => ca_d b bv W (PP.out.below hb))
  have C' := Lib.hid (fun W (hb : Below W1.heap.size W1 W) => ca_c b bv W (PP.out.below hb))
  have P0' := Lib.hid (fun W (hb : Below W1.heap.size W1 W) => ca_p0 b bv W (PP.out.below hb))
  have P1' := Lib.hid (fun W (hb : Below W1.heap.size W1 W) => ca_p1 b bv W (PP.out.below hb))
  go_upto_region 2 with (fail)
  obtain ⟨W2, hW2⟩ : ∃ W2, (((W1)).alloc (.cells #[.slice (some ⟨b, 0, none⟩) 4 4, .slice (some ⟨bv, 0, none⟩) 4 4] 25)).alloc (.cells #[.int .i64 10000, .int .i64 1000, .int .i64 1000] 29) = W2 := ⟨_, rfl⟩
  have hbW2 : Below W1.heap.size W1 W2 := by rw [← hW2]; exact ((Below.refl _ W1).alloc (by simp [gw_size]) _).alloc (by simp [gw_size] <;> omega) _
  have zcW2 : W2.heap[W1.heap.size]? = some (.cells #[.slice (some ⟨b, 0, none⟩) 4 4, .slice (some ⟨bv, 0, none⟩) 4 4] 25 (0, 0)) := by rw [← hW2]; exact alloc_keep (alloc_at (by simp [gw_size]))
  have ZcW2 := Lib.hid zcW2; clear zcW2
  have zpW2 : W2.heap[W1.heap.size + 1]? = some (.cells #[.int .i64 10000, .int .i64 1000, .int .i64 1000] 29 (0, 0)) := by rw [← hW2]; exact alloc_at (by simp [gw_size] <;> omega)
  have ZpW2 := Lib.hid zpW2; clear zpW2
  have HBW2 := Lib.hid (thru hbW2 HBc.out)
  have SBW2 := Lib.hid hbW2; clear hbW2
  have HWW2 := Lib.hid hW2; clear hW2
  rw [HWW2.out]
  have S2 := Lib.hid SBW2.out
  have ec0W2 : W2.cell? ⟨W1.heap.size, 0, none⟩ = some (.slice (some ⟨b, 0, none⟩) 4 4) := cell_of_block ZcW2.out 0 (by simp)
  have ec1W2 : W2.cell? ⟨W1.heap.size, 1, none⟩ = some (.slice (some ⟨bv, 0, none⟩) 4 4) := cell_of_block ZcW2.out 1 (by simp)
  have lcW2 := (Array.getElem?_eq_some_iff.1 ZcW2.out).1
  go_wp2_with fail
  refine (Calls.grown (V0'.out _ (S2.out))).mono ?_
  rintro e w1 ⟨rfl, z1, rfl⟩
  go_upto_region 3 with (fail)
  obtain ⟨W3, hW3⟩ : ∃ W3, ((gw W2 z1)).alloc (.cells #[.int .i64 5000, .int .i64 5200] 27) = W3 := ⟨_, rfl⟩
  have hbW3 : Below W2.heap.size W2 W3 := by rw [← hW3]; exact (below_gw W2 z1).alloc (by simp [gw_size]) _
  have ZcW3 := Lib.hid ((hbW3.block _ (Array.getElem?_eq_some_iff.1 ZcW2.out).1).trans ZcW2.out)
  have ZpW3 := Lib.hid ((hbW3.block _ (Array.getElem?_eq_some_iff.1 ZpW2.out).1).trans ZpW2.out)
  have zxW3 : W3.heap[W2.heap.size + z1.bs.size]? = some (.cells #[.int .i64 5000, .int .i64 5200] 27 (0, 0)) := by rw [← hW3]; exact alloc_at (by simp [gw_size])
  have ZxW3 := Lib.hid zxW3; clear zxW3
  have HBW3 := Lib.hid (thru hbW3 HBW2.out)
  have SBW3 := Lib.hid hbW3; clear hbW3
  have HWW3 := Lib.hid hW3; clear hW3
  rw [HWW3.out]
  clear ec0W2 ec1W2
  have S3 := Lib.hid (S2.out.trans (SBW3.out.mono S2.out.size))
  have ec0W3 : W3.cell? ⟨W1.heap.size, 0, none⟩ = some (.slice (some ⟨b, 0, none⟩) 4 4) := cell_of_block ZcW3.out 0 (by simp)
  have ec1W3 : W3.cell? ⟨W1.heap.size, 1, none⟩ = some (.slice (some ⟨bv, 0, none⟩) 4 4) := cell_of_block ZcW3.out 1 (by simp)
  have lcW3 := (Array.getElem?_eq_some_iff.1 ZcW3.out).1
  go_wp2_with fail
  refine (Calls.grown (V1'.out _ (S3.out))).mono ?_
  rintro e w1 ⟨rfl, z2, rfl⟩
  go_upto_region 4 with (fail)
  obtain ⟨W4, hW4⟩ : ∃ W4, ((gw W3 z2)).alloc (.cells #[.int .i64 6500, .int .i64 6650] 27) = W4 := ⟨_, rfl⟩
  have hbW4 : Below W3.heap.size W3 W4 := by rw [← hW4]; exact (below_gw W3 z2).alloc (by simp [gw_size]) _
  have ZcW4 := Lib.hid ((hbW4.block _ (Array.getElem?_eq_some_iff.1 ZcW3.out).1).trans ZcW3.out)
  have ZpW4 := Lib.hid ((hbW4.block _ (Array.getElem?_eq_some_iff.1 ZpW3.out).1).trans ZpW3.out)
  have ZxW4 := Lib.hid ((hbW4.block _ (Array.getElem?_eq_some_iff.1 ZxW3.out).1).trans ZxW3.out)
  have zyW4 : W4.heap[W3.heap.size + z2.bs.size]? = some (.cells #[.int .i64 6500, .int .i64 6650] 27 (0, 0)) := by rw [← hW4]; exact alloc_at (by simp [gw_size])
  have ZyW4 := Lib.hid zyW4; clear zyW4
  have HBW4 := Lib.hid (thru hbW4 HBW3.out)
  have SBW4 := Lib.hid hbW4; clear hbW4
  have HWW4 := Lib.hid hW4; clear hW4
  rw [HWW4.out]
  clear ec0W3 ec1W3
  have S4 := Lib.hid (S3.out.trans (SBW4.out.mono S3.out.size))
  have ec0W4 : W4.cell? ⟨W1.heap.size, 0, none⟩ = some (.slice (some ⟨b, 0, none⟩) 4 4) := cell_of_block ZcW4.out 0 (by simp)
  have ec1W4 : W4.cell? ⟨W1.heap.size, 1, none⟩ = some (.slice (some ⟨bv, 0, none⟩) 4 4) := cell_of_block ZcW4.out 1 (by simp)
  have lcW4 := (Array.getElem?_eq_some_iff.1 ZcW4.out).1
  go_wp2_with fail
  refine (Calls.grown (V2'.out _ (S4.out))).mono ?_
  rintro e w1 ⟨rfl, z3, rfl⟩
  go_upto_region 5 with (fail)
  obtain ⟨W5, hW5⟩ : ∃ W5, ((gw W4 z3)).alloc (.cells #[.int .i64 2500, .int .i64 5200] 27) = W5 := ⟨_, rfl⟩
  have hbW5 : Below W4.heap.size W4 W5 := by rw [← hW5]; exact (below_gw W4 z3).alloc (by simp [gw_size]) _
  have ZcW5 := Lib.hid ((hbW5.block _ (Array.getElem?_eq_some_iff.1 ZcW4.out).1).trans ZcW4.out)
  have ZpW5 := Lib.hid ((hbW5.block _ (Array.getElem?_eq_some_iff.1 ZpW4.out).1).trans ZpW4.out)
  have ZxW5 := Lib.hid ((hbW5.block _ (Array.getElem?_eq_some_iff.1 ZxW4.out).1).trans ZxW4.out)
  have ZyW5 := Lib.hid ((hbW5.block _ (Array.getElem?_eq_some_iff.1 ZyW4.out).1).trans ZyW4.out)
  have zzW5 : W5.heap[W4.heap.size + z3.bs.size]? = some (.cells #[.int .i64 2500, .int .i64 5200] 27 (0, 0)) := by rw [← hW5]; exact alloc_at (by simp [gw_size])
  have ZzW5 := Lib.hid zzW5; clear zzW5
  have HBW5 := Lib.hid (thru hbW5 HBW4.out)
  have SBW5 := Lib.hid hbW5; clear hbW5
  have HWW5 := Lib.hid hW5; clear hW5
  rw [HWW5.out]
  clear ec0W4 ec1W4
  have S5 := Lib.hid (S4.out.trans (SBW5.out.mono S4.out.size))
  have ec0W5 : W5.cell? ⟨W1.heap.size, 0, none⟩ = some (.slice (some ⟨b, 0, none⟩) 4 4) := cell_of_block ZcW5.out 0 (by simp)
  have ec1W5 : W5.cell? ⟨W1.heap.size, 1, none⟩ = some (.slice (some ⟨bv, 0, none⟩) 4 4) := cell_of_block ZcW5.out 1 (by simp)
  have lcW5 := (Array.getElem?_eq_some_iff.1 ZcW5.out).1
  have ep0W5 : W5.cell? ⟨W1.heap.size + 1, 0, none⟩ = some (.int .i64 10000) := cell_of_block ZpW5.out 0 (by simp)
  have ep1W5 : W5.cell? ⟨W1.heap.size + 1, 1, none⟩ = some (.int .i64 1000) := cell_of_block ZpW5.out 1 (by simp)
  have ep2W5 : W5.cell? ⟨W1.heap.size + 1, 2, none⟩ = some (.int .i64 1000) := cell_of_block ZpW5.out 2 (by simp)
  have lpW5 := (Array.getElem?_eq_some_iff.1 ZpW5.out).1
  go_wp2_with fail
  refine (Calls.grown (D'.out _ (S5.out))).mono ?_
  rintro e w1 ⟨rfl, z4, rfl⟩
  go_upto_region 6 with (fail)
  obtain ⟨W6, hW6⟩ : ∃ W6, (((gw W5 z4)).alloc (.cells #[.int .i64 drX.d, .int .i64 drX.lo, .int .i64 drX.hi] 36)).alloc (.cells #[.int .i64 9000, .int .i64 480, .int .i64 734] 29) = W6 := ⟨_, rfl⟩
  have hbW6 : Below W5.heap.size W5 W6 := by rw [← hW6]; exact ((below_gw W5 z4).alloc (by simp [gw_size]) _).alloc (by simp [gw_size] <;> omega) _
  have ZcW6 := Lib.hid ((hbW6.block _ (Array.getElem?_eq_some_iff.1 ZcW5.out).1).trans ZcW5.out)
  have ZpW6 := Lib.hid ((hbW6.block _ (Array.getElem?_eq_some_iff.1 ZpW5.out).1).trans ZpW5.out)
  have ZxW6 := Lib.hid ((hbW6.block _ (Array.getElem?_eq_some_iff.1 ZxW5.out).1).trans ZxW5.out)
  have ZyW6 := Lib.hid ((hbW6.block _ (Array.getElem?_eq_some_iff.1 ZyW5.out).1).trans ZyW5.out)
  have ZzW6 := Lib.hid ((hbW6.block _ (Array.getElem?_eq_some_iff.1 ZzW5.out).1).trans ZzW5.out)
  have zdW6 : W6.heap[W5.heap.size + z4.bs.size]? = some (.cells #[.int .i64 drX.d, .int .i64 drX.lo, .int .i64 drX.hi] 36 (0, 0)) := by rw [← hW6]; exact alloc_keep (alloc_at (by simp [gw_size]))
  have ZdW6 := Lib.hid zdW6; clear zdW6
  have zqW6 : W6.heap[W5.heap.size + z4.bs.size + 1]? = some (.cells #[.int .i64 9000, .int .i64 480, .int .i64 734] 29 (0, 0)) := by rw [← hW6]; exact alloc_at (by simp [gw_size] <;> omega)
  have ZqW6 := Lib.hid zqW6; clear zqW6
  have HBW6 := Lib.hid (thru hbW6 HBW5.out)
  have SBW6 := Lib.hid hbW6; clear hbW6
  have HWW6 := Lib.hid hW6; clear hW6
  rw [HWW6.out]
  clear ec0W5 ec1W5 ep0W5 ep1W5 ep2W5
  have S6 := Lib.hid (S5.out.trans (SBW6.out.mono S5.out.size))
  have ec0W6 : W6.cell? ⟨W1.heap.size, 0, none⟩ = some (.slice (some ⟨b, 0, none⟩) 4 4) := cell_of_block ZcW6.out 0 (by simp)
  have ec1W6 : W6.cell? ⟨W1.heap.size, 1, none⟩ = some (.slice (some ⟨bv, 0, none⟩) 4 4) := cell_of_block ZcW6.out 1 (by simp)
  have lcW6 := (Array.getElem?_eq_some_iff.1 ZcW6.out).1
  have ep0W6 : W6.cell? ⟨W1.heap.size + 1, 0, none⟩ = some (.int .i64 10000) := cell_of_block ZpW6.out 0 (by simp)
  have ep1W6 : W6.cell? ⟨W1.heap.size + 1, 1, none⟩ = some (.int .i64 1000) := cell_of_block ZpW6.out 1 (by simp)
  have ep2W6 : W6.cell? ⟨W1.heap.size + 1, 2, none⟩ = some (.int .i64 1000) := cell_of_block ZpW6.out 2 (by simp)
  have lpW6 := (Array.getElem?_eq_some_iff.1 ZpW6.out).1
  go_wp2_with fail
  obtain ⟨W7, hW7⟩ : ∃ W7, ((W6)).alloc (.cells #[.int .i64 1000, .int .i64 1000] 3) = W7 := ⟨_, rfl⟩
  have hbW7 : Below W6.heap.size W6 W7 := by rw [← hW7]; exact (Below.refl _ W6).alloc (by simp [gw_size]) _
  have ZcW7 := Lib.hid ((hbW7.block _ (Array.getElem?_eq_some_iff.1 ZcW6.out).1).trans ZcW6.out)
  have ZpW7 := Lib.hid ((hbW7.block _ (Array.getElem?_eq_some_iff.1 ZpW6.out).1).trans ZpW6.out)
  have ZxW7 := Lib.hid ((hbW7.block _ (Array.getElem?_eq_some_iff.1 ZxW6.out).1).trans ZxW6.out)
  have ZyW7 := Lib.hid ((hbW7.block _ (Array.getElem?_eq_some_iff.1 ZyW6.out).1).trans ZyW6.out)
  have ZzW7 := Lib.hid ((hbW7.block _ (Array.getElem?_eq_some_iff.1 ZzW6.out).1).trans ZzW6.out)
  have ZdW7 := Lib.hid ((hbW7.block _ (Array.getElem?_eq_some_iff.1 ZdW6.out).1).trans ZdW6.out)
  have ZqW7 := Lib.hid ((hbW7.block _ (Array.getElem?_eq_some_iff.1 ZqW6.out).1).trans ZqW6.out)
  have zmW7 : W7.heap[W6.heap.size]? = some (.cells #[.int .i64 1000, .int .i64 1000] 3 (0, 0)) := by rw [← hW7]; exact alloc_at (by simp [gw_size])
  have ZmW7 := Lib.hid zmW7; clear zmW7
  have HBW7 := Lib.hid (thru hbW7 HBW6.out)
  have SBW7 := Lib.hid hbW7; clear hbW7
  have HWW7 := Lib.hid hW7; clear hW7
  rw [HWW7.out]
  clear ec0W6 ec1W6 ep0W6 ep1W6 ep2W6
  have S7 := Lib.hid (S6.out.trans (SBW7.out.mono S6.out.size))
  refine (C'.out _ (S7.out) _ (ints_lit ZmW7.out (fun j hj => by rcases (by omega : j = 0 ∨ j = 1) with rfl | rfl <;> rfl))).mono ?_
  rintro e u1 ⟨a1, c1, rfl, l1, hb1⟩
  have HU1 := Lib.hid hb1; clear hb1
  have SBu1 := Lib.hid (HU1.out)
  have Zcu1 := Lib.hid ((SBu1.out.block _ (Array.getElem?_eq_some_iff.1 ZcW7.out).1).trans ZcW7.out)
  have Zpu1 := Lib.hid ((SBu1.out.block _ (Array.getElem?_eq_some_iff.1 ZpW7.out).1).trans ZpW7.out)
  have Zxu1 := Lib.hid ((SBu1.out.block _ (Array.getElem?_eq_some_iff.1 ZxW7.out).1).trans ZxW7.out)
  have Zyu1 := Lib.hid ((SBu1.out.block _ (Array.getElem?_eq_some_iff.1 ZyW7.out).1).trans ZyW7.out)
  have Zzu1 := Lib.hid ((SBu1.out.block _ (Array.getElem?_eq_some_iff.1 ZzW7.out).1).trans ZzW7.out)
  have Zdu1 := Lib.hid ((SBu1.out.block _ (Array.getElem?_eq_some_iff.1 ZdW7.out).1).trans ZdW7.out)
  have Zqu1 := Lib.hid ((SBu1.out.block _ (Array.getElem?_eq_some_iff.1 ZqW7.out).1).trans ZqW7.out)
  have Zmu1 := Lib.hid ((SBu1.out.block _ (Array.getElem?_eq_some_iff.1 ZmW7.out).1).trans ZmW7.out)
  have HBu1 := Lib.hid (thru SBu1.out HBW7.out)
  have Su1 := Lib.hid (S7.out.trans (SBu1.out.mono S7.out.size))
  have LL1 := Lib.hid (fun W (hb : Below u1.heap.size u1 W) => l1.below hb); clear l1
  have P0x' := Lib.hid (fun W (hb : Below u1.heap.size u1 W) => P0'.out W (Su1.out.trans (hb.mono Su1.out.size)))
  have P1x' := Lib.hid (fun W (hb : Below u1.heap.size u1 W) => P1'.out W (Su1.out.trans (hb.mono Su1.out.size)))
  have T0 := Lib.hid (Below.refl u1.heap.size u1)
  go_upto_region 7 with (fail)
  go_wp2_with fail
  refine (Calls.grown (ca_y _)).mono ?_
  rintro e w1 ⟨rfl, z5, rfl⟩
  go_wp2_with fail
  refine (Calls.gw_of (ca_w _)).mono ?_
  rintro e w1 ⟨rfl, z6, rfl⟩
  go_upto_region 9 with (fail)
  obtain ⟨W8, hW8⟩ : ∃ W8, gw u1 z6 = W8 := ⟨_, rfl⟩
  have hbW8 : Below u1.heap.size u1 W8 := by rw [← hW8]; exact below_gw u1 z6
  have ZcW8 := Lib.hid ((hbW8.block _ (Array.getElem?_eq_some_iff.1 Zcu1.out).1).trans Zcu1.out)
  have ZpW8 := Lib.hid ((hbW8.block _ (Array.getElem?_eq_some_iff.1 Zpu1.out).1).trans Zpu1.out)
  have ZxW8 := Lib.hid ((hbW8.block _ (Array.getElem?_eq_some_iff.1 Zxu1.out).1).trans Zxu1.out)
  have ZyW8 := Lib.hid ((hbW8.block _ (Array.getElem?_eq_some_iff.1 Zyu1.out).1).trans Zyu1.out)
  have ZzW8 := Lib.hid ((hbW8.block _ (Array.getElem?_eq_some_iff.1 Zzu1.out).1).trans Zzu1.out)
  have ZdW8 := Lib.hid ((hbW8.block _ (Array.getElem?_eq_some_iff.1 Zdu1.out).1).trans Zdu1.out)
  have ZqW8 := Lib.hid ((hbW8.block _ (Array.getElem?_eq_some_iff.1 Zqu1.out).1).trans Zqu1.out)
  have ZmW8 := Lib.hid ((hbW8.block _ (Array.getElem?_eq_some_iff.1 Zmu1.out).1).trans Zmu1.out)
  have HBW8 := Lib.hid (thru hbW8 HBu1.out)
  have SBW8 := Lib.hid hbW8; clear hbW8
  have HWW8 := Lib.hid hW8; clear hW8
  rw [HWW8.out]
  have S8 := Lib.hid (T0.out.trans (SBW8.out.mono T0.out.size))
  have ec0W8 : W8.cell? ⟨W1.heap.size, 0, none⟩ = some (.slice (some ⟨b, 0, none⟩) 4 4) := cell_of_block ZcW8.out 0 (by simp)
  have ec1W8 : W8.cell? ⟨W1.heap.size, 1, none⟩ = some (.slice (some ⟨bv, 0, none⟩) 4 4) := cell_of_block ZcW8.out 1 (by simp)
  have lcW8 := (Array.getElem?_eq_some_iff.1 ZcW8.out).1
  go_wp2_with fail
  refine (Calls.grown (P0x'.out _ (S8.out))).mono ?_
  rintro e w1 ⟨rfl, z7, rfl⟩
  go_wp2_with fail
  refine (Calls.gw_of (P1x'.out _ (S8.out.trans ((below_gw W8 z7).mono S8.out.size)))).mono ?_
  rintro e w1 ⟨rfl, z8, rfl⟩
  go_upto_region 11 with (fail)
  obtain ⟨W9, hW9⟩ : ∃ W9, gw W8 z8 = W9 := ⟨_, rfl⟩
  have hbW9 : Below W8.heap.size W8 W9 := by rw [← hW9]; exact below_gw W8 z8
  have ZcW9 := Lib.hid ((hbW9.block _ (Array.getElem?_eq_some_iff.1 ZcW8.out).1).trans ZcW8.out)
  have ZpW9 := Lib.hid ((hbW9.block _ (Array.getElem?_eq_some_iff.1 ZpW8.out).1).trans ZpW8.out)
  have ZxW9 := Lib.hid ((hbW9.block _ (Array.getElem?_eq_some_iff.1 ZxW8.out).1).trans ZxW8.out)
  have ZyW9 := Lib.hid ((hbW9.block _ (Array.getElem?_eq_some_iff.1 ZyW8.out).1).trans ZyW8.out)
  have ZzW9 := Lib.hid ((hbW9.block _ (Array.getElem?_eq_some_iff.1 ZzW8.out).1).trans ZzW8.out)
  have ZdW9 := Lib.hid ((hbW9.block _ (Array.getElem?_eq_some_iff.1 ZdW8.out).1).trans ZdW8.out)
  have ZqW9 := Lib.hid ((hbW9.block _ (Array.getElem?_eq_some_iff.1 ZqW8.out).1).trans ZqW8.out)
  have ZmW9 := Lib.hid ((hbW9.block _ (Array.getElem?_eq_some_iff.1 ZmW8.out).1).trans ZmW8.out)
  have HBW9 := Lib.hid (thru hbW9 HBW8.out)
  have SBW9 := Lib.hid hbW9; clear hbW9
  have HWW9 := Lib.hid hW9; clear hW9
  rw [HWW9.out]
  clear ec0W8 ec1W8
  have S9 := Lib.hid (S8.out.trans (SBW9.out.mono S8.out.size))
  have ex0W9 : W9.cell? ⟨W2.heap.size + z1.bs.size, 0, none⟩ = some (.int .i64 5000) := cell_of_block ZxW9.out 0 (by simp)
  have ex1W9 : W9.cell? ⟨W2.heap.size + z1.bs.size, 1, none⟩ = some (.int .i64 5200) := cell_of_block ZxW9.out 1 (by simp)
  have lxW9 := (Array.getElem?_eq_some_iff.1 ZxW9.out).1
  have ey0W9 : W9.cell? ⟨W3.heap.size + z2.bs.size, 0, none⟩ = some (.int .i64 6500) := cell_of_block ZyW9.out 0 (by simp)
  have ey1W9 : W9.cell? ⟨W3.heap.size + z2.bs.size, 1, none⟩ = some (.int .i64 6650) := cell_of_block ZyW9.out 1 (by simp)
  have lyW9 := (Array.getElem?_eq_some_iff.1 ZyW9.out).1
  have ez0W9 : W9.cell? ⟨W4.heap.size + z3.bs.size, 0, none⟩ = some (.int .i64 2500) := cell_of_block ZzW9.out 0 (by simp)
  have ez1W9 : W9.cell? ⟨W4.heap.size + z3.bs.size, 1, none⟩ = some (.int .i64 5200) := cell_of_block ZzW9.out 1 (by simp)
  have lzW9 := (Array.getElem?_eq_some_iff.1 ZzW9.out).1
  have eq0W9 : W9.cell? ⟨W5.heap.size + z4.bs.size + 1, 0, none⟩ = some (.int .i64 9000) := cell_of_block ZqW9.out 0 (by simp)
  have eq1W9 : W9.cell? ⟨W5.heap.size + z4.bs.size + 1, 1, none⟩ = some (.int .i64 480) := cell_of_block ZqW9.out 1 (by simp)
  have eq2W9 : W9.cell? ⟨W5.heap.size + z4.bs.size + 1, 2, none⟩ = some (.int .i64 734) := cell_of_block ZqW9.out 2 (by simp)
  have lqW9 := (Array.getElem?_eq_some_iff.1 ZqW9.out).1
  go_wp2_with fail
  refine (Calls.grown (alive_any _)).mono ?_
  rintro e w1 ⟨rfl, z9, rfl⟩
  go_wp2_with fail
  obtain ⟨W10, hW10⟩ : ∃ W10, ((gw W9 z9)).alloc (.cells #[.int .i64 6, .int .i64 14] 3) = W10 := ⟨_, rfl⟩
  have hbW10 : Below W9.heap.size W9 W10 := by rw [← hW10]; exact (below_gw W9 z9).alloc (by simp [gw_size]) _
  have ZcW10 := Lib.hid ((hbW10.block _ (Array.getElem?_eq_some_iff.1 ZcW9.out).1).trans ZcW9.out)
  have ZpW10 := Lib.hid ((hbW10.block _ (Array.getElem?_eq_some_iff.1 ZpW9.out).1).trans ZpW9.out)
  have ZxW10 := Lib.hid ((hbW10.block _ (Array.getElem?_eq_some_iff.1 ZxW9.out).1).trans ZxW9.out)
  have ZyW10 := Lib.hid ((hbW10.block _ (Array.getElem?_eq_some_iff.1 ZyW9.out).1).trans ZyW9.out)
  have ZzW10 := Lib.hid ((hbW10.block _ (Array.getElem?_eq_some_iff.1 ZzW9.out).1).trans ZzW9.out)
  have ZdW10 := Lib.hid ((hbW10.block _ (Array.getElem?_eq_some_iff.1 ZdW9.out).1).trans ZdW9.out)
  have ZqW10 := Lib.hid ((hbW10.block _ (Array.getElem?_eq_some_iff.1 ZqW9.out).1).trans ZqW9.out)
  have ZmW10 := Lib.hid ((hbW10.block _ (Array.getElem?_eq_some_iff.1 ZmW9.out).1).trans ZmW9.out)
  have znW10 : W10.heap[W9.heap.size + z9.bs.size]? = some (.cells #[.int .i64 6, .int .i64 14] 3 (0, 0)) := by rw [← hW10]; exact alloc_at (by simp [gw_size])
  have ZnW10 := Lib.hid znW10; clear znW10
  have HBW10 := Lib.hid (thru hbW10 HBW9.out)
  have SBW10 := Lib.hid hbW10; clear hbW10
  have HWW10 := Lib.hid hW10; clear hW10
  rw [HWW10.out]
  have S10 := Lib.hid (S9.out.trans (SBW10.out.mono S9.out.size))
  refine (sameInts_t a1 (some ⟨W9.heap.size + z9.bs.size, 0, none⟩) 2 c1 2 _ W10 (by omega) (LL1.out _ (S10.out)) (ints_lit ZnW10.out (fun _ _ => rfl))).mono ?_
  rintro e w1 ⟨rfl, z99, rfl⟩
  go_wp2_with fail
  go_ret
  exact ⟨rfl, HBW10.out.gw z99⟩
end Go.Proofs.Yticgkhoidgkejaa
