/- WashNames walked: it returns true. No conditions beyond each theorem's own. -/
import Derived.Test.YtecbacbecopbeaaEf
import Derived.Test.YtecbacbecopbeaaCf
import Derived.Test.YtecbacbecopbeaaBu
import Derived.Test.YtecbacbecopbeaaAn
set_option linter.unusedVariables false
set_option linter.unusedSimpArgs false
set_option linter.unusedSectionVars false
set_option linter.constructorNameAsVariable false
namespace Go.Proofs.Ytecbacbecopbeaa
open Go.RowKit

attribute [local go_sem] gw_cell gw_frozen gw_size

theorem contQ_now {Q : Exit → Act → World → Prop} {K : Act → World → Prop} {a : Act} {w : World} (h : K a w) : contQ Q K .normal a w := h
theorem spans_lit {W : World} {b : Nat} {n : Nat} {F G : Nat → Int} (lb : b < W.heap.size) (h : ∀ i, i < n → W.cell? ⟨b, i * 2, none⟩ = some (.int .i64 (F i)) ∧ W.cell? ⟨b, i * 2 + 1, none⟩ = some (.int .i64 (G i))) : SpansAt W (some ⟨b, 0, none⟩) n F G :=
  .inr ⟨b, 0, rfl, lb, fun i hi => by have := h i hi; simpa using this⟩

set_option maxRecDepth 100000 in
set_option maxHeartbeats 16000000 in
theorem names_any (w : World) : Calls Try.prog 15 #[] w (True1 w) := by
  have hms : ∀ w : World, (Instr.makeSlice 34 (.int .i64 6) (.int .i64 6)).run Try.prog w = .ok (.slice (some ⟨w.heap.size, 0, none⟩) 6 6) (w.alloc (.cells #[.int .i64 0, .int .i64 0, .int .i64 0, .int .i64 0, .int .i64 0, .int .i64 0, .int .i64 0, .int .i64 0, .int .i64 0, .int .i64 0, .int .i64 0, .int .i64 0] 23)) := fun w => by
    have h1 : (Instr.makeSlice 34 (.int .i64 6) (.int .i64 6)).run Try.prog w = .ok (.slice (some ⟨w.heap.size, 0, none⟩) (6 : Int).toNat (6 : Int).toNat) (w.alloc (.cells (madeCells #[.int .i64 0, .int .i64 0] ((6 : Int).toNat * 2)) 23)) :=
      run_make (P := Try.prog) w 34 23 _ _ rfl rfl rfl .i64 .i64 6 6 (by omega) (by omega) (by show (16 : Int) * 6 ≤ _; omega) (by omega)
    have h2 : madeCells #[.int .i64 0, .int .i64 0] ((6 : Int).toNat * 2) = #[.int .i64 0, .int .i64 0, .int .i64 0, .int .i64 0, .int .i64 0, .int .i64 0, .int .i64 0, .int .i64 0, .int .i64 0, .int .i64 0, .int .i64 0, .int .i64 0] := by kernel_rfl
    rw [h1, h2]
    rfl
  go_enter Try.func15, Try.ntmps15
  go_wp2_with fail
  refine (sample_any w).mono ?_
  rintro e W1 ⟨bT, bR, rfl, IN, hb⟩
  have HBc := Lib.hid hb; clear hb
  have HO := fun W (hb : Below W1.heap.size W1 W) => Hour_any (sampY bT bR) sampV 0 0 W (IN.below hb) (samp_fits _ _)
  rw [nm_hourE, nm_hourV] at HO
  have FI := fun W (hb : Below W1.heap.size W1 W) (a : Option Addr) (hS : SpansAt W a 6 zF zF) => First_any a 6 6 zF zF (sampY bT bR) sampV 20000 29000 W (IN.below hb) (samp_fits _ _) hS (by omega)
  unfold FirR at FI
  rw [nm_firstE, nm_firstN] at FI
  have C1 := fun W (hb : Below W1.heap.size W1 W) (a : Option Addr) (hS : SpansAt W a 2 chFs chGs) => Cool_any ⟨sampY bT bR, 2, chFs, chGs, 23500, 27600⟩ a 2 sampV 4 W (IN.below hb) (samp_fits _ _) hS (by dsimp only; omega)
  have C2 := fun W (hb : Below W1.heap.size W1 W) (a : Option Addr) (hS : SpansAt W a 2 chFs chGs) => Cool_any ⟨sampY bT bR, 2, chFs, chGs, 24000, 27600⟩ a 2 sampV 4 W (IN.below hb) (samp_fits _ _) hS (by dsimp only; omega)
  unfold CoolR at C1 C2
  rw [nm_coolE, nm_coolL] at C1
  rw [nm_noneE, nm_noneL] at C2
  unfold Yst.val Vat.val sampY sampV at HO FI C1 C2
  dsimp only at HO FI C1 C2
  have MA := fun (W : World) (hb : Below W1.heap.size W1 W) => Mash_any sampM W
  rw [samp_mashE, samp_mashO] at MA
  unfold Msh.val MOut.val sampM at MA
  dsimp only at MA
  have HO' := Lib.hid HO; have FI' := Lib.hid FI; have C1' := Lib.hid C1; have C2' := Lib.hid C2; have MA' := Lib.hid MA
  have AI := Lib.hid (fun (W : World) (a : Option Addr) (hS : SpansAt W a 3 hF hF) => Air_any 0 0 a 3 3 hF hF 500 W hS (by omega))
  have BO1 := fun w => Bound_any 100 500 w
  rw [nm_bound1.1, nm_bound1.2] at BO1
  have BO2 := fun w => Bound_any 100 250 w
  rw [nm_bound2.1, nm_bound2.2] at BO2
  have BO3 := fun w => Bound_any 100 1000 w
  rw [nm_bound3.1, nm_bound3.2] at BO3
  have VE := fun w => Vent_any 100 99 w
  rw [nm_ventE, nm_ventV] at VE
  have BO1' := Lib.hid BO1; have BO2' := Lib.hid BO2; have BO3' := Lib.hid BO3; have VE' := Lib.hid VE
  clear HO FI C1 C2 MA BO1 BO2 BO3 VE IN
  go_upto_region 2 with (fail)
  obtain ⟨W2, hW2⟩ : ∃ W2, (((W1)).alloc (.cells #[.slice (some ⟨bT, 0, none⟩) 2 2, .slice (some ⟨bR, 0, none⟩) 3 3, .int .i64 640, .int .i64 650, .int .i64 480, .int .i64 490, .int .i64 600, .int .i64 600] 36)).alloc (.cells #[.int .i64 1000000, .int .i64 1000000, .int .i64 0, .int .i64 0, .int .i64 0, .int .i64 0, .int .i64 0, .int .i64 0, .int .i64 0, .int .i64 0, .int .i64 25000, .int .i64 25000, .int .i64 40000000] 38) = W2 := ⟨_, rfl⟩
  have hbW2 : Below W1.heap.size W1 W2 := by rw [← hW2]; exact ((Below.refl _ W1).alloc (by simp [gw_size]) _).alloc (by simp [gw_size] <;> omega) _
  have zyW2 : W2.heap[W1.heap.size]? = some (.cells #[.slice (some ⟨bT, 0, none⟩) 2 2, .slice (some ⟨bR, 0, none⟩) 3 3, .int .i64 640, .int .i64 650, .int .i64 480, .int .i64 490, .int .i64 600, .int .i64 600] 36 (0, 0)) := by rw [← hW2]; exact alloc_keep (alloc_at (by simp [gw_size]))
  have ZyW2 := Lib.hid zyW2; clear zyW2
  have zvW2 : W2.heap[W1.heap.size + 1]? = some (.cells #[.int .i64 1000000, .int .i64 1000000, .int .i64 0, .int .i64 0, .int .i64 0, .int .i64 0, .int .i64 0, .int .i64 0, .int .i64 0, .int .i64 0, .int .i64 25000, .int .i64 25000, .int .i64 40000000] 38 (0, 0)) := by rw [← hW2]; exact alloc_at (by simp [gw_size] <;> omega)
  have ZvW2 := Lib.hid zvW2; clear zvW2
  have HBW2 := Lib.hid (thru hbW2 HBc.out)
  have SBW2 := Lib.hid hbW2; clear hbW2
  have HWW2 := Lib.hid hW2; clear hW2
  rw [HWW2.out]
  have S2 := Lib.hid SBW2.out
  go_wp2_with fail
  refine (Calls.grown (MA'.out _ (S2.out))).mono ?_
  rintro e w1 ⟨rfl, z1, rfl⟩
  go_upto_region 3 with (fail)
  obtain ⟨W3, hW3⟩ : ∃ W3, (((gw W2 z1)).alloc (.cells #[.int .i64 490, .int .i64 563, .int .i64 2800, .int .i64 3000] 27)).alloc (.cells #[.int .i64 175, .int .i64 225] 23) = W3 := ⟨_, rfl⟩
  have hbW3 : Below W2.heap.size W2 W3 := by rw [← hW3]; exact ((below_gw W2 z1).alloc (by simp [gw_size]) _).alloc (by simp [gw_size] <;> omega) _
  have ZyW3 := Lib.hid ((hbW3.block _ (Array.getElem?_eq_some_iff.1 ZyW2.out).1).trans ZyW2.out)
  have ZvW3 := Lib.hid ((hbW3.block _ (Array.getElem?_eq_some_iff.1 ZvW2.out).1).trans ZvW2.out)
  have zoW3 : W3.heap[W2.heap.size + z1.bs.size]? = some (.cells #[.int .i64 490, .int .i64 563, .int .i64 2800, .int .i64 3000] 27 (0, 0)) := by rw [← hW3]; exact alloc_keep (alloc_at (by simp [gw_size]))
  have ZoW3 := Lib.hid zoW3; clear zoW3
  have zlW3 : W3.heap[W2.heap.size + z1.bs.size + 1]? = some (.cells #[.int .i64 175, .int .i64 225] 23 (0, 0)) := by rw [← hW3]; exact alloc_at (by simp [gw_size] <;> omega)
  have ZlW3 := Lib.hid zlW3; clear zlW3
  have HBW3 := Lib.hid (thru hbW3 HBW2.out)
  have SBW3 := Lib.hid hbW3; clear hbW3
  have HWW3 := Lib.hid hW3; clear hW3
  rw [HWW3.out]
  have S3 := Lib.hid (S2.out.trans (SBW3.out.mono S2.out.size))
  have ey0W3 : W3.cell? ⟨W1.heap.size, 0, none⟩ = some (.slice (some ⟨bT, 0, none⟩) 2 2) := cell_of_block ZyW3.out 0 (by simp)
  have ey1W3 : W3.cell? ⟨W1.heap.size, 1, none⟩ = some (.slice (some ⟨bR, 0, none⟩) 3 3) := cell_of_block ZyW3.out 1 (by simp)
  have ey2W3 : W3.cell? ⟨W1.heap.size, 2, none⟩ = some (.int .i64 640) := cell_of_block ZyW3.out 2 (by simp)
  have ey3W3 : W3.cell? ⟨W1.heap.size, 3, none⟩ = some (.int .i64 650) := cell_of_block ZyW3.out 3 (by simp)
  have ey4W3 : W3.cell? ⟨W1.heap.size, 4, none⟩ = some (.int .i64 480) := cell_of_block ZyW3.out 4 (by simp)
  have ey5W3 : W3.cell? ⟨W1.heap.size, 5, none⟩ = some (.int .i64 490) := cell_of_block ZyW3.out 5 (by simp)
  have ey6W3 : W3.cell? ⟨W1.heap.size, 6, none⟩ = some (.int .i64 600) := cell_of_block ZyW3.out 6 (by simp)
  have ey7W3 : W3.cell? ⟨W1.heap.size, 7, none⟩ = some (.int .i64 600) := cell_of_block ZyW3.out 7 (by simp)
  have lyW3 := (Array.getElem?_eq_some_iff.1 ZyW3.out).1
  have ev0W3 : W3.cell? ⟨W1.heap.size + 1, 0, none⟩ = some (.int .i64 1000000) := cell_of_block ZvW3.out 0 (by simp)
  have ev1W3 : W3.cell? ⟨W1.heap.size + 1, 1, none⟩ = some (.int .i64 1000000) := cell_of_block ZvW3.out 1 (by simp)
  have ev2W3 : W3.cell? ⟨W1.heap.size + 1, 2, none⟩ = some (.int .i64 0) := cell_of_block ZvW3.out 2 (by simp)
  have ev3W3 : W3.cell? ⟨W1.heap.size + 1, 3, none⟩ = some (.int .i64 0) := cell_of_block ZvW3.out 3 (by simp)
  have ev4W3 : W3.cell? ⟨W1.heap.size + 1, 4, none⟩ = some (.int .i64 0) := cell_of_block ZvW3.out 4 (by simp)
  have ev5W3 : W3.cell? ⟨W1.heap.size + 1, 5, none⟩ = some (.int .i64 0) := cell_of_block ZvW3.out 5 (by simp)
  have ev6W3 : W3.cell? ⟨W1.heap.size + 1, 6, none⟩ = some (.int .i64 0) := cell_of_block ZvW3.out 6 (by simp)
  have ev7W3 : W3.cell? ⟨W1.heap.size + 1, 7, none⟩ = some (.int .i64 0) := cell_of_block ZvW3.out 7 (by simp)
  have ev8W3 : W3.cell? ⟨W1.heap.size + 1, 8, none⟩ = some (.int .i64 0) := cell_of_block ZvW3.out 8 (by simp)
  have ev9W3 : W3.cell? ⟨W1.heap.size + 1, 9, none⟩ = some (.int .i64 0) := cell_of_block ZvW3.out 9 (by simp)
  have ev10W3 : W3.cell? ⟨W1.heap.size + 1, 10, none⟩ = some (.int .i64 25000) := cell_of_block ZvW3.out 10 (by simp)
  have ev11W3 : W3.cell? ⟨W1.heap.size + 1, 11, none⟩ = some (.int .i64 25000) := cell_of_block ZvW3.out 11 (by simp)
  have ev12W3 : W3.cell? ⟨W1.heap.size + 1, 12, none⟩ = some (.int .i64 40000000) := cell_of_block ZvW3.out 12 (by simp)
  have lvW3 := (Array.getElem?_eq_some_iff.1 ZvW3.out).1
  go_wp2_with fail
  refine (Calls.grown (HO'.out _ (S3.out))).mono ?_
  rintro e w1 ⟨rfl, z2, rfl⟩
  go_upto_region 4 with (fail)
  obtain ⟨W4, hW4⟩ : ∃ W4, ((gw W3 z2)).alloc (.cells #[.int .i64 900000, .int .i64 950000, .int .i64 50000, .int .i64 100000, .int .i64 32000, .int .i64 65000, .int .i64 24000, .int .i64 49000, .int .i64 24000, .int .i64 49000, .int .i64 25750, .int .i64 26500, .int .i64 40000000] 38) = W4 := ⟨_, rfl⟩
  have hbW4 : Below W3.heap.size W3 W4 := by rw [← hW4]; exact (below_gw W3 z2).alloc (by simp [gw_size]) _
  have ZyW4 := Lib.hid ((hbW4.block _ (Array.getElem?_eq_some_iff.1 ZyW3.out).1).trans ZyW3.out)
  have ZvW4 := Lib.hid ((hbW4.block _ (Array.getElem?_eq_some_iff.1 ZvW3.out).1).trans ZvW3.out)
  have ZoW4 := Lib.hid ((hbW4.block _ (Array.getElem?_eq_some_iff.1 ZoW3.out).1).trans ZoW3.out)
  have ZlW4 := Lib.hid ((hbW4.block _ (Array.getElem?_eq_some_iff.1 ZlW3.out).1).trans ZlW3.out)
  have zaW4 : W4.heap[W3.heap.size + z2.bs.size]? = some (.cells #[.int .i64 900000, .int .i64 950000, .int .i64 50000, .int .i64 100000, .int .i64 32000, .int .i64 65000, .int .i64 24000, .int .i64 49000, .int .i64 24000, .int .i64 49000, .int .i64 25750, .int .i64 26500, .int .i64 40000000] 38 (0, 0)) := by rw [← hW4]; exact alloc_at (by simp [gw_size])
  have ZaW4 := Lib.hid zaW4; clear zaW4
  have HBW4 := Lib.hid (thru hbW4 HBW3.out)
  have SBW4 := Lib.hid hbW4; clear hbW4
  have HWW4 := Lib.hid hW4; clear hW4
  rw [HWW4.out]
  clear ey0W3 ey1W3 ey2W3 ey3W3 ey4W3 ey5W3 ey6W3 ey7W3 ev0W3 ev1W3 ev2W3 ev3W3 ev4W3 ev5W3 ev6W3 ev7W3 ev8W3 ev9W3 ev10W3 ev11W3 ev12W3
  have S4 := Lib.hid (S3.out.trans (SBW4.out.mono S3.out.size))
  go_upto_region 5 with (fail)
  obtain ⟨W5, hW5⟩ : ∃ W5, ((W4)).alloc (.cells #[.int .i64 24000, .int .i64 49000] 23) = W5 := ⟨_, rfl⟩
  have hbW5 : Below W4.heap.size W4 W5 := by rw [← hW5]; exact (Below.refl _ W4).alloc (by simp [gw_size]) _
  have ZyW5 := Lib.hid ((hbW5.block _ (Array.getElem?_eq_some_iff.1 ZyW4.out).1).trans ZyW4.out)
  have ZvW5 := Lib.hid ((hbW5.block _ (Array.getElem?_eq_some_iff.1 ZvW4.out).1).trans ZvW4.out)
  have ZoW5 := Lib.hid ((hbW5.block _ (Array.getElem?_eq_some_iff.1 ZoW4.out).1).trans ZoW4.out)
  have ZlW5 := Lib.hid ((hbW5.block _ (Array.getElem?_eq_some_iff.1 ZlW4.out).1).trans ZlW4.out)
  have ZaW5 := Lib.hid ((hbW5.block _ (Array.getElem?_eq_some_iff.1 ZaW4.out).1).trans ZaW4.out)
  have zuW5 : W5.heap[W4.heap.size]? = some (.cells #[.int .i64 24000, .int .i64 49000] 23 (0, 0)) := by rw [← hW5]; exact alloc_at (by simp [gw_size])
  have ZuW5 := Lib.hid zuW5; clear zuW5
  have HBW5 := Lib.hid (thru hbW5 HBW4.out)
  have SBW5 := Lib.hid hbW5; clear hbW5
  have HWW5 := Lib.hid hW5; clear hW5
  rw [HWW5.out]
  have S5 := Lib.hid (S4.out.trans (SBW5.out.mono S4.out.size))
  have eu0W5 : W5.cell? ⟨W4.heap.size, 0, none⟩ = some (.int .i64 24000) := cell_of_block ZuW5.out 0 (by simp)
  have eu1W5 : W5.cell? ⟨W4.heap.size, 1, none⟩ = some (.int .i64 49000) := cell_of_block ZuW5.out 1 (by simp)
  have luW5 := (Array.getElem?_eq_some_iff.1 ZuW5.out).1
  go_upto_region 6 with (fail)
  obtain ⟨W6, hW6⟩ : ∃ W6, ((W5)).alloc (.cells #[.int .i64 900000, .int .i64 950000, .int .i64 50000, .int .i64 100000, .int .i64 32000, .int .i64 65000, .int .i64 24000, .int .i64 49000, .int .i64 24000, .int .i64 49000, .int .i64 25750, .int .i64 26500, .int .i64 40000000] 38) = W6 := ⟨_, rfl⟩
  have hbW6 : Below W5.heap.size W5 W6 := by rw [← hW6]; exact (Below.refl _ W5).alloc (by simp [gw_size]) _
  have ZyW6 := Lib.hid ((hbW6.block _ (Array.getElem?_eq_some_iff.1 ZyW5.out).1).trans ZyW5.out)
  have ZvW6 := Lib.hid ((hbW6.block _ (Array.getElem?_eq_some_iff.1 ZvW5.out).1).trans ZvW5.out)
  have ZoW6 := Lib.hid ((hbW6.block _ (Array.getElem?_eq_some_iff.1 ZoW5.out).1).trans ZoW5.out)
  have ZlW6 := Lib.hid ((hbW6.block _ (Array.getElem?_eq_some_iff.1 ZlW5.out).1).trans ZlW5.out)
  have ZaW6 := Lib.hid ((hbW6.block _ (Array.getElem?_eq_some_iff.1 ZaW5.out).1).trans ZaW5.out)
  have ZuW6 := Lib.hid ((hbW6.block _ (Array.getElem?_eq_some_iff.1 ZuW5.out).1).trans ZuW5.out)
  have zxW6 : W6.heap[W5.heap.size]? = some (.cells #[.int .i64 900000, .int .i64 950000, .int .i64 50000, .int .i64 100000, .int .i64 32000, .int .i64 65000, .int .i64 24000, .int .i64 49000, .int .i64 24000, .int .i64 49000, .int .i64 25750, .int .i64 26500, .int .i64 40000000] 38 (0, 0)) := by rw [← hW6]; exact alloc_at (by simp [gw_size])
  have ZxW6 := Lib.hid zxW6; clear zxW6
  have HBW6 := Lib.hid (thru hbW6 HBW5.out)
  have SBW6 := Lib.hid hbW6; clear hbW6
  have HWW6 := Lib.hid hW6; clear hW6
  rw [HWW6.out]
  clear eu0W5 eu1W5
  have S6 := Lib.hid (S5.out.trans (SBW6.out.mono S5.out.size))
  have ey0W6 : W6.cell? ⟨W1.heap.size, 0, none⟩ = some (.slice (some ⟨bT, 0, none⟩) 2 2) := cell_of_block ZyW6.out 0 (by simp)
  have ey1W6 : W6.cell? ⟨W1.heap.size, 1, none⟩ = some (.slice (some ⟨bR, 0, none⟩) 3 3) := cell_of_block ZyW6.out 1 (by simp)
  have ey2W6 : W6.cell? ⟨W1.heap.size, 2, none⟩ = some (.int .i64 640) := cell_of_block ZyW6.out 2 (by simp)
  have ey3W6 : W6.cell? ⟨W1.heap.size, 3, none⟩ = some (.int .i64 650) := cell_of_block ZyW6.out 3 (by simp)
  have ey4W6 : W6.cell? ⟨W1.heap.size, 4, none⟩ = some (.int .i64 480) := cell_of_block ZyW6.out 4 (by simp)
  have ey5W6 : W6.cell? ⟨W1.heap.size, 5, none⟩ = some (.int .i64 490) := cell_of_block ZyW6.out 5 (by simp)
  have ey6W6 : W6.cell? ⟨W1.heap.size, 6, none⟩ = some (.int .i64 600) := cell_of_block ZyW6.out 6 (by simp)
  have ey7W6 : W6.cell? ⟨W1.heap.size, 7, none⟩ = some (.int .i64 600) := cell_of_block ZyW6.out 7 (by simp)
  have lyW6 := (Array.getElem?_eq_some_iff.1 ZyW6.out).1
  have ev0W6 : W6.cell? ⟨W1.heap.size + 1, 0, none⟩ = some (.int .i64 1000000) := cell_of_block ZvW6.out 0 (by simp)
  have ev1W6 : W6.cell? ⟨W1.heap.size + 1, 1, none⟩ = some (.int .i64 1000000) := cell_of_block ZvW6.out 1 (by simp)
  have ev2W6 : W6.cell? ⟨W1.heap.size + 1, 2, none⟩ = some (.int .i64 0) := cell_of_block ZvW6.out 2 (by simp)
  have ev3W6 : W6.cell? ⟨W1.heap.size + 1, 3, none⟩ = some (.int .i64 0) := cell_of_block ZvW6.out 3 (by simp)
  have ev4W6 : W6.cell? ⟨W1.heap.size + 1, 4, none⟩ = some (.int .i64 0) := cell_of_block ZvW6.out 4 (by simp)
  have ev5W6 : W6.cell? ⟨W1.heap.size + 1, 5, none⟩ = some (.int .i64 0) := cell_of_block ZvW6.out 5 (by simp)
  have ev6W6 : W6.cell? ⟨W1.heap.size + 1, 6, none⟩ = some (.int .i64 0) := cell_of_block ZvW6.out 6 (by simp)
  have ev7W6 : W6.cell? ⟨W1.heap.size + 1, 7, none⟩ = some (.int .i64 0) := cell_of_block ZvW6.out 7 (by simp)
  have ev8W6 : W6.cell? ⟨W1.heap.size + 1, 8, none⟩ = some (.int .i64 0) := cell_of_block ZvW6.out 8 (by simp)
  have ev9W6 : W6.cell? ⟨W1.heap.size + 1, 9, none⟩ = some (.int .i64 0) := cell_of_block ZvW6.out 9 (by simp)
  have ev10W6 : W6.cell? ⟨W1.heap.size + 1, 10, none⟩ = some (.int .i64 25000) := cell_of_block ZvW6.out 10 (by simp)
  have ev11W6 : W6.cell? ⟨W1.heap.size + 1, 11, none⟩ = some (.int .i64 25000) := cell_of_block ZvW6.out 11 (by simp)
  have ev12W6 : W6.cell? ⟨W1.heap.size + 1, 12, none⟩ = some (.int .i64 40000000) := cell_of_block ZvW6.out 12 (by simp)
  have lvW6 := (Array.getElem?_eq_some_iff.1 ZvW6.out).1
  refine wp_region_steps (fun w' => ∃ x, w' = gw W6 x) [([0, 1, 3], 2), ([], 4)] [5, 6, 7, 8, 9] [] (by kernel_rfl) (by kernel_rfl) ?_
  rintro _ ⟨x1, rfl⟩
  refine ⟨⟨_, rfl⟩, ?_⟩
  refine wpSeg_cons ?_
  simp only [pickL, List.getElem?_cons_zero, List.getElem?_cons_succ]
  repeat (go_big_quiet_step (fail))
  refine wpQuiet_nil ?_
  go_wp2_with fail
  have bz := thru (below_alloc (gw W6 x1) (.cells #[.int .i64 0, .int .i64 0, .int .i64 0, .int .i64 0, .int .i64 0, .int .i64 0, .int .i64 0, .int .i64 0, .int .i64 0, .int .i64 0, .int .i64 0, .int .i64 0] 23)) (below_gw W6 x1)
  obtain ⟨x2, hx2⟩ := gw_of_below bz
  have zz : ((gw W6 x1).alloc (.cells #[.int .i64 0, .int .i64 0, .int .i64 0, .int .i64 0, .int .i64 0, .int .i64 0, .int .i64 0, .int .i64 0, .int .i64 0, .int .i64 0, .int .i64 0, .int .i64 0] 23)).heap[W6.heap.size + x1.bs.size]? = some (.cells #[.int .i64 0, .int .i64 0, .int .i64 0, .int .i64 0, .int .i64 0, .int .i64 0, .int .i64 0, .int .i64 0, .int .i64 0, .int .i64 0, .int .i64 0, .int .i64 0] 23 (0, 0)) := alloc_at (by rw [gw_size])
  rw [hx2] at zz bz ⊢
  refine contQ_now ⟨⟨_, rfl⟩, ?_⟩
  have SA := Lib.hid (show SpansAt (gw W6 x2) (some ⟨W6.heap.size + x1.bs.size, 0, none⟩) 6 zF zF from spans_lit (Array.getElem?_eq_some_iff.1 zz).1 (fun i hi => by have a1 := cell_of_block zz (i * 2) (by simp; omega); have a2 := cell_of_block zz (i * 2 + 1) (by simp; omega); rcases i with _ | _ | _ | _ | _ | _ | i <;> first | exact ⟨a1, a2⟩ | omega)); clear zz hx2 bz
  refine wpSeg_cons ?_
  simp only [pickL, List.getElem?_cons_zero, List.getElem?_cons_succ]
  repeat (go_big_quiet_step (fail))
  refine wpQuiet_nil ?_
  go_wp2_with fail
  rename_i KK hKK
  refine (FI'.out _ (S6.out.trans ((below_gw W6 x2).mono S6.out.size)) _ SA.out).mono ?_
  rintro e w1 ⟨rfl, hb3⟩
  obtain ⟨x3, hx3⟩ := gw_of_below (thru hb3 (below_gw W6 x2))
  subst hx3
  clear hb3
  refine hKK _ _ (contQ_nil ⟨⟨_, rfl⟩, ?_⟩)
  clear hKK KK
  refine wpSeg_nil ?_
  simp only [pickL, List.getElem?_cons_zero, List.getElem?_cons_succ]
  repeat (go_big_quiet_step (fail))
  refine wpQuiet_nil ?_
  refine contN_nil ?_
  go_upto_region 8 with (fail)
  obtain ⟨W7, hW7⟩ : ∃ W7, ((gw W6 x3)).alloc (.cells #[.int .i64 0, .int .i64 0, .int .i64 1000, .int .i64 1200] 23) = W7 := ⟨_, rfl⟩
  have hbW7 : Below W6.heap.size W6 W7 := by rw [← hW7]; exact (below_gw W6 x3).alloc (by simp [gw_size]) _
  have ZyW7 := Lib.hid ((hbW7.block _ (Array.getElem?_eq_some_iff.1 ZyW6.out).1).trans ZyW6.out)
  have ZvW7 := Lib.hid ((hbW7.block _ (Array.getElem?_eq_some_iff.1 ZvW6.out).1).trans ZvW6.out)
  have ZoW7 := Lib.hid ((hbW7.block _ (Array.getElem?_eq_some_iff.1 ZoW6.out).1).trans ZoW6.out)
  have ZlW7 := Lib.hid ((hbW7.block _ (Array.getElem?_eq_some_iff.1 ZlW6.out).1).trans ZlW6.out)
  have ZaW7 := Lib.hid ((hbW7.block _ (Array.getElem?_eq_some_iff.1 ZaW6.out).1).trans ZaW6.out)
  have ZuW7 := Lib.hid ((hbW7.block _ (Array.getElem?_eq_some_iff.1 ZuW6.out).1).trans ZuW6.out)
  have ZxW7 := Lib.hid ((hbW7.block _ (Array.getElem?_eq_some_iff.1 ZxW6.out).1).trans ZxW6.out)
  have zcW7 : W7.heap[W6.heap.size + x3.bs.size]? = some (.cells #[.int .i64 0, .int .i64 0, .int .i64 1000, .int .i64 1200] 23 (0, 0)) := by rw [← hW7]; exact alloc_at (by simp [gw_size])
  have ZcW7 := Lib.hid zcW7; clear zcW7
  have HBW7 := Lib.hid (thru hbW7 HBW6.out)
  have SBW7 := Lib.hid hbW7; clear hbW7
  have HWW7 := Lib.hid hW7; clear hW7
  rw [HWW7.out]
  clear ey0W6 ey1W6 ey2W6 ey3W6 ey4W6 ey5W6 ey6W6 ey7W6 ev0W6 ev1W6 ev2W6 ev3W6 ev4W6 ev5W6 ev6W6 ev7W6 ev8W6 ev9W6 ev10W6 ev11W6 ev12W6
  have S7 := Lib.hid (S6.out.trans (SBW7.out.mono S6.out.size))
  have ey0W7 : W7.cell? ⟨W1.heap.size, 0, none⟩ = some (.slice (some ⟨bT, 0, none⟩) 2 2) := cell_of_block ZyW7.out 0 (by simp)
  have ey1W7 : W7.cell? ⟨W1.heap.size, 1, none⟩ = some (.slice (some ⟨bR, 0, none⟩) 3 3) := cell_of_block ZyW7.out 1 (by simp)
  have ey2W7 : W7.cell? ⟨W1.heap.size, 2, none⟩ = some (.int .i64 640) := cell_of_block ZyW7.out 2 (by simp)
  have ey3W7 : W7.cell? ⟨W1.heap.size, 3, none⟩ = some (.int .i64 650) := cell_of_block ZyW7.out 3 (by simp)
  have ey4W7 : W7.cell? ⟨W1.heap.size, 4, none⟩ = some (.int .i64 480) := cell_of_block ZyW7.out 4 (by simp)
  have ey5W7 : W7.cell? ⟨W1.heap.size, 5, none⟩ = some (.int .i64 490) := cell_of_block ZyW7.out 5 (by simp)
  have ey6W7 : W7.cell? ⟨W1.heap.size, 6, none⟩ = some (.int .i64 600) := cell_of_block ZyW7.out 6 (by simp)
  have ey7W7 : W7.cell? ⟨W1.heap.size, 7, none⟩ = some (.int .i64 600) := cell_of_block ZyW7.out 7 (by simp)
  have lyW7 := (Array.getElem?_eq_some_iff.1 ZyW7.out).1
  have ev0W7 : W7.cell? ⟨W1.heap.size + 1, 0, none⟩ = some (.int .i64 1000000) := cell_of_block ZvW7.out 0 (by simp)
  have ev1W7 : W7.cell? ⟨W1.heap.size + 1, 1, none⟩ = some (.int .i64 1000000) := cell_of_block ZvW7.out 1 (by simp)
  have ev2W7 : W7.cell? ⟨W1.heap.size + 1, 2, none⟩ = some (.int .i64 0) := cell_of_block ZvW7.out 2 (by simp)
  have ev3W7 : W7.cell? ⟨W1.heap.size + 1, 3, none⟩ = some (.int .i64 0) := cell_of_block ZvW7.out 3 (by simp)
  have ev4W7 : W7.cell? ⟨W1.heap.size + 1, 4, none⟩ = some (.int .i64 0) := cell_of_block ZvW7.out 4 (by simp)
  have ev5W7 : W7.cell? ⟨W1.heap.size + 1, 5, none⟩ = some (.int .i64 0) := cell_of_block ZvW7.out 5 (by simp)
  have ev6W7 : W7.cell? ⟨W1.heap.size + 1, 6, none⟩ = some (.int .i64 0) := cell_of_block ZvW7.out 6 (by simp)
  have ev7W7 : W7.cell? ⟨W1.heap.size + 1, 7, none⟩ = some (.int .i64 0) := cell_of_block ZvW7.out 7 (by simp)
  have ev8W7 : W7.cell? ⟨W1.heap.size + 1, 8, none⟩ = some (.int .i64 0) := cell_of_block ZvW7.out 8 (by simp)
  have ev9W7 : W7.cell? ⟨W1.heap.size + 1, 9, none⟩ = some (.int .i64 0) := cell_of_block ZvW7.out 9 (by simp)
  have ev10W7 : W7.cell? ⟨W1.heap.size + 1, 10, none⟩ = some (.int .i64 25000) := cell_of_block ZvW7.out 10 (by simp)
  have ev11W7 : W7.cell? ⟨W1.heap.size + 1, 11, none⟩ = some (.int .i64 25000) := cell_of_block ZvW7.out 11 (by simp)
  have ev12W7 : W7.cell? ⟨W1.heap.size + 1, 12, none⟩ = some (.int .i64 40000000) := cell_of_block ZvW7.out 12 (by simp)
  have lvW7 := (Array.getElem?_eq_some_iff.1 ZvW7.out).1
  have SC := Lib.hid (show SpansAt W7 (some ⟨W6.heap.size + x3.bs.size, 0, none⟩) 2 chFs chGs from spans_lit (Array.getElem?_eq_some_iff.1 ZcW7.out).1 (fun i hi => by have a1 := cell_of_block ZcW7.out (i * 2) (by simp; omega); have a2 := cell_of_block ZcW7.out (i * 2 + 1) (by simp; omega); rcases i with _ | _ | i <;> first | exact ⟨a1, a2⟩ | omega))
  go_wp2_with fail
  refine (C1'.out _ (S7.out) _ SC.out).mono ?_
  rintro e u1 ⟨a1, q1, rfl, hT1, hB1⟩
  have HT1 := Lib.hid hT1; have HU1 := Lib.hid hB1; clear hT1 hB1
  clear ey0W7 ey1W7 ey2W7 ey3W7 ey4W7 ey5W7 ey6W7 ey7W7 ev0W7 ev1W7 ev2W7 ev3W7 ev4W7 ev5W7 ev6W7 ev7W7 ev8W7 ev9W7 ev10W7 ev11W7 ev12W7
  have SC1 := Lib.hid (SC.out.below HU1.out)
  have SBu1 := Lib.hid (HU1.out)
  have Zyu1 := Lib.hid ((SBu1.out.block _ (Array.getElem?_eq_some_iff.1 ZyW7.out).1).trans ZyW7.out)
  have Zvu1 := Lib.hid ((SBu1.out.block _ (Array.getElem?_eq_some_iff.1 ZvW7.out).1).trans ZvW7.out)
  have Zou1 := Lib.hid ((SBu1.out.block _ (Array.getElem?_eq_some_iff.1 ZoW7.out).1).trans ZoW7.out)
  have Zlu1 := Lib.hid ((SBu1.out.block _ (Array.getElem?_eq_some_iff.1 ZlW7.out).1).trans ZlW7.out)
  have Zau1 := Lib.hid ((SBu1.out.block _ (Array.getElem?_eq_some_iff.1 ZaW7.out).1).trans ZaW7.out)
  have Zuu1 := Lib.hid ((SBu1.out.block _ (Array.getElem?_eq_some_iff.1 ZuW7.out).1).trans ZuW7.out)
  have Zxu1 := Lib.hid ((SBu1.out.block _ (Array.getElem?_eq_some_iff.1 ZxW7.out).1).trans ZxW7.out)
  have Zcu1 := Lib.hid ((SBu1.out.block _ (Array.getElem?_eq_some_iff.1 ZcW7.out).1).trans ZcW7.out)
  have HBu1 := Lib.hid (thru SBu1.out HBW7.out)
  have Su1 := Lib.hid (S7.out.trans (SBu1.out.mono S7.out.size))
  have ey0u1 : u1.cell? ⟨W1.heap.size, 0, none⟩ = some (.slice (some ⟨bT, 0, none⟩) 2 2) := cell_of_block Zyu1.out 0 (by simp)
  have ey1u1 : u1.cell? ⟨W1.heap.size, 1, none⟩ = some (.slice (some ⟨bR, 0, none⟩) 3 3) := cell_of_block Zyu1.out 1 (by simp)
  have ey2u1 : u1.cell? ⟨W1.heap.size, 2, none⟩ = some (.int .i64 640) := cell_of_block Zyu1.out 2 (by simp)
  have ey3u1 : u1.cell? ⟨W1.heap.size, 3, none⟩ = some (.int .i64 650) := cell_of_block Zyu1.out 3 (by simp)
  have ey4u1 : u1.cell? ⟨W1.heap.size, 4, none⟩ = some (.int .i64 480) := cell_of_block Zyu1.out 4 (by simp)
  have ey5u1 : u1.cell? ⟨W1.heap.size, 5, none⟩ = some (.int .i64 490) := cell_of_block Zyu1.out 5 (by simp)
  have ey6u1 : u1.cell? ⟨W1.heap.size, 6, none⟩ = some (.int .i64 600) := cell_of_block Zyu1.out 6 (by simp)
  have ey7u1 : u1.cell? ⟨W1.heap.size, 7, none⟩ = some (.int .i64 600) := cell_of_block Zyu1.out 7 (by simp)
  have lyu1 := (Array.getElem?_eq_some_iff.1 Zyu1.out).1
  have ev0u1 : u1.cell? ⟨W1.heap.size + 1, 0, none⟩ = some (.int .i64 1000000) := cell_of_block Zvu1.out 0 (by simp)
  have ev1u1 : u1.cell? ⟨W1.heap.size + 1, 1, none⟩ = some (.int .i64 1000000) := cell_of_block Zvu1.out 1 (by simp)
  have ev2u1 : u1.cell? ⟨W1.heap.size + 1, 2, none⟩ = some (.int .i64 0) := cell_of_block Zvu1.out 2 (by simp)
  have ev3u1 : u1.cell? ⟨W1.heap.size + 1, 3, none⟩ = some (.int .i64 0) := cell_of_block Zvu1.out 3 (by simp)
  have ev4u1 : u1.cell? ⟨W1.heap.size + 1, 4, none⟩ = some (.int .i64 0) := cell_of_block Zvu1.out 4 (by simp)
  have ev5u1 : u1.cell? ⟨W1.heap.size + 1, 5, none⟩ = some (.int .i64 0) := cell_of_block Zvu1.out 5 (by simp)
  have ev6u1 : u1.cell? ⟨W1.heap.size + 1, 6, none⟩ = some (.int .i64 0) := cell_of_block Zvu1.out 6 (by simp)
  have ev7u1 : u1.cell? ⟨W1.heap.size + 1, 7, none⟩ = some (.int .i64 0) := cell_of_block Zvu1.out 7 (by simp)
  have ev8u1 : u1.cell? ⟨W1.heap.size + 1, 8, none⟩ = some (.int .i64 0) := cell_of_block Zvu1.out 8 (by simp)
  have ev9u1 : u1.cell? ⟨W1.heap.size + 1, 9, none⟩ = some (.int .i64 0) := cell_of_block Zvu1.out 9 (by simp)
  have ev10u1 : u1.cell? ⟨W1.heap.size + 1, 10, none⟩ = some (.int .i64 25000) := cell_of_block Zvu1.out 10 (by simp)
  have ev11u1 : u1.cell? ⟨W1.heap.size + 1, 11, none⟩ = some (.int .i64 25000) := cell_of_block Zvu1.out 11 (by simp)
  have ev12u1 : u1.cell? ⟨W1.heap.size + 1, 12, none⟩ = some (.int .i64 40000000) := cell_of_block Zvu1.out 12 (by simp)
  have lvu1 := (Array.getElem?_eq_some_iff.1 Zvu1.out).1
  go_wp2_with fail
  refine (C2'.out _ (Su1.out) _ SC1.out).mono ?_
  rintro e u2 ⟨a2, q2, rfl, hT2, hB2⟩
  have HU2 := Lib.hid hB2; have HT1b := Lib.hid (HT1.out.below hB2); clear hT2 hB2
  clear ey0u1 ey1u1 ey2u1 ey3u1 ey4u1 ey5u1 ey6u1 ey7u1 ev0u1 ev1u1 ev2u1 ev3u1 ev4u1 ev5u1 ev6u1 ev7u1 ev8u1 ev9u1 ev10u1 ev11u1 ev12u1
  have SBu2 := Lib.hid (HU2.out)
  have Zyu2 := Lib.hid ((SBu2.out.block _ (Array.getElem?_eq_some_iff.1 Zyu1.out).1).trans Zyu1.out)
  have Zvu2 := Lib.hid ((SBu2.out.block _ (Array.getElem?_eq_some_iff.1 Zvu1.out).1).trans Zvu1.out)
  have Zou2 := Lib.hid ((SBu2.out.block _ (Array.getElem?_eq_some_iff.1 Zou1.out).1).trans Zou1.out)
  have Zlu2 := Lib.hid ((SBu2.out.block _ (Array.getElem?_eq_some_iff.1 Zlu1.out).1).trans Zlu1.out)
  have Zau2 := Lib.hid ((SBu2.out.block _ (Array.getElem?_eq_some_iff.1 Zau1.out).1).trans Zau1.out)
  have Zuu2 := Lib.hid ((SBu2.out.block _ (Array.getElem?_eq_some_iff.1 Zuu1.out).1).trans Zuu1.out)
  have Zxu2 := Lib.hid ((SBu2.out.block _ (Array.getElem?_eq_some_iff.1 Zxu1.out).1).trans Zxu1.out)
  have Zcu2 := Lib.hid ((SBu2.out.block _ (Array.getElem?_eq_some_iff.1 Zcu1.out).1).trans Zcu1.out)
  have HBu2 := Lib.hid (thru SBu2.out HBu1.out)
  have Su2 := Lib.hid (Su1.out.trans (SBu2.out.mono Su1.out.size))
  go_upto_region 11 with (fail)
  obtain ⟨W8, hW8⟩ : ∃ W8, ((u2)).alloc (.cells #[.int .i64 100, .int .i64 100] 23) = W8 := ⟨_, rfl⟩
  have hbW8 : Below u2.heap.size u2 W8 := by rw [← hW8]; exact (Below.refl _ u2).alloc (by simp [gw_size]) _
  have ZyW8 := Lib.hid ((hbW8.block _ (Array.getElem?_eq_some_iff.1 Zyu2.out).1).trans Zyu2.out)
  have ZvW8 := Lib.hid ((hbW8.block _ (Array.getElem?_eq_some_iff.1 Zvu2.out).1).trans Zvu2.out)
  have ZoW8 := Lib.hid ((hbW8.block _ (Array.getElem?_eq_some_iff.1 Zou2.out).1).trans Zou2.out)
  have ZlW8 := Lib.hid ((hbW8.block _ (Array.getElem?_eq_some_iff.1 Zlu2.out).1).trans Zlu2.out)
  have ZaW8 := Lib.hid ((hbW8.block _ (Array.getElem?_eq_some_iff.1 Zau2.out).1).trans Zau2.out)
  have ZuW8 := Lib.hid ((hbW8.block _ (Array.getElem?_eq_some_iff.1 Zuu2.out).1).trans Zuu2.out)
  have ZxW8 := Lib.hid ((hbW8.block _ (Array.getElem?_eq_some_iff.1 Zxu2.out).1).trans Zxu2.out)
  have ZcW8 := Lib.hid ((hbW8.block _ (Array.getElem?_eq_some_iff.1 Zcu2.out).1).trans Zcu2.out)
  have zmW8 : W8.heap[u2.heap.size]? = some (.cells #[.int .i64 100, .int .i64 100] 23 (0, 0)) := by rw [← hW8]; exact alloc_at (by simp [gw_size])
  have ZmW8 := Lib.hid zmW8; clear zmW8
  have HBW8 := Lib.hid (thru hbW8 HBu2.out)
  have SBW8 := Lib.hid hbW8; clear hbW8
  have HWW8 := Lib.hid hW8; clear hW8
  rw [HWW8.out]
  have S8 := Lib.hid (Su2.out.trans (SBW8.out.mono Su2.out.size))
  have em0W8 : W8.cell? ⟨u2.heap.size, 0, none⟩ = some (.int .i64 100) := cell_of_block ZmW8.out 0 (by simp)
  have em1W8 : W8.cell? ⟨u2.heap.size, 1, none⟩ = some (.int .i64 100) := cell_of_block ZmW8.out 1 (by simp)
  have lmW8 := (Array.getElem?_eq_some_iff.1 ZmW8.out).1
  have zz : (W8.alloc (.cells #[.int .i64 100, .int .i64 100, .int .i64 100, .int .i64 100, .int .i64 100, .int .i64 100] 23)).heap[W8.heap.size]? = some (.cells #[.int .i64 100, .int .i64 100, .int .i64 100, .int .i64 100, .int .i64 100, .int .i64 100] 23 (0, 0)) := alloc_at rfl
  have SM := Lib.hid (show SpansAt (W8.alloc (.cells #[.int .i64 100, .int .i64 100, .int .i64 100, .int .i64 100, .int .i64 100, .int .i64 100] 23)) (some ⟨W8.heap.size, 0, none⟩) 3 hF hF from spans_lit (Array.getElem?_eq_some_iff.1 zz).1 (fun i hi => by have a1 := cell_of_block zz (i * 2) (by simp; omega); have a2 := cell_of_block zz (i * 2 + 1) (by simp; omega); rcases i with _ | _ | _ | i <;> first | exact ⟨a1, a2⟩ | omega)); clear zz
  go_wp2_with fail
  refine (AI.out _ _ SM.out).mono ?_
  rintro e u3 ⟨v3, rfl, hO3, hB3⟩
  rw [nm_airN] at hO3
  rw [nm_airE]
  obtain ⟨a3, q3, rfl, hT3⟩ := spans_of_own hO3
  have HT3 := Lib.hid hT3
  have HU3 := Lib.hid (thru hB3 (below_alloc W8 (.cells #[.int .i64 100, .int .i64 100, .int .i64 100, .int .i64 100, .int .i64 100, .int .i64 100] 23))); clear hO3 hB3 hT3 em0W8 em1W8
  have HT1c := Lib.hid (HT1b.out.below (thru HU3.out SBW8.out))
  have SBu3 := Lib.hid (HU3.out)
  have Zyu3 := Lib.hid ((SBu3.out.block _ (Array.getElem?_eq_some_iff.1 ZyW8.out).1).trans ZyW8.out)
  have Zvu3 := Lib.hid ((SBu3.out.block _ (Array.getElem?_eq_some_iff.1 ZvW8.out).1).trans ZvW8.out)
  have Zou3 := Lib.hid ((SBu3.out.block _ (Array.getElem?_eq_some_iff.1 ZoW8.out).1).trans ZoW8.out)
  have Zlu3 := Lib.hid ((SBu3.out.block _ (Array.getElem?_eq_some_iff.1 ZlW8.out).1).trans ZlW8.out)
  have Zau3 := Lib.hid ((SBu3.out.block _ (Array.getElem?_eq_some_iff.1 ZaW8.out).1).trans ZaW8.out)
  have Zuu3 := Lib.hid ((SBu3.out.block _ (Array.getElem?_eq_some_iff.1 ZuW8.out).1).trans ZuW8.out)
  have Zxu3 := Lib.hid ((SBu3.out.block _ (Array.getElem?_eq_some_iff.1 ZxW8.out).1).trans ZxW8.out)
  have Zcu3 := Lib.hid ((SBu3.out.block _ (Array.getElem?_eq_some_iff.1 ZcW8.out).1).trans ZcW8.out)
  have Zmu3 := Lib.hid ((SBu3.out.block _ (Array.getElem?_eq_some_iff.1 ZmW8.out).1).trans ZmW8.out)
  have HBu3 := Lib.hid (thru SBu3.out HBW8.out)
  have Su3 := Lib.hid (S8.out.trans (SBu3.out.mono S8.out.size))
  have eo0u3 : u3.cell? ⟨W2.heap.size + z1.bs.size, 0, none⟩ = some (.int .i64 490) := cell_of_block Zou3.out 0 (by simp)
  have eo1u3 : u3.cell? ⟨W2.heap.size + z1.bs.size, 1, none⟩ = some (.int .i64 563) := cell_of_block Zou3.out 1 (by simp)
  have eo2u3 : u3.cell? ⟨W2.heap.size + z1.bs.size, 2, none⟩ = some (.int .i64 2800) := cell_of_block Zou3.out 2 (by simp)
  have eo3u3 : u3.cell? ⟨W2.heap.size + z1.bs.size, 3, none⟩ = some (.int .i64 3000) := cell_of_block Zou3.out 3 (by simp)
  have lou3 := (Array.getElem?_eq_some_iff.1 Zou3.out).1
  have el0u3 : u3.cell? ⟨W2.heap.size + z1.bs.size + 1, 0, none⟩ = some (.int .i64 175) := cell_of_block Zlu3.out 0 (by simp)
  have el1u3 : u3.cell? ⟨W2.heap.size + z1.bs.size + 1, 1, none⟩ = some (.int .i64 225) := cell_of_block Zlu3.out 1 (by simp)
  have llu3 := (Array.getElem?_eq_some_iff.1 Zlu3.out).1
  have ea0u3 : u3.cell? ⟨W3.heap.size + z2.bs.size, 0, none⟩ = some (.int .i64 900000) := cell_of_block Zau3.out 0 (by simp)
  have ea1u3 : u3.cell? ⟨W3.heap.size + z2.bs.size, 1, none⟩ = some (.int .i64 950000) := cell_of_block Zau3.out 1 (by simp)
  have ea2u3 : u3.cell? ⟨W3.heap.size + z2.bs.size, 2, none⟩ = some (.int .i64 50000) := cell_of_block Zau3.out 2 (by simp)
  have ea3u3 : u3.cell? ⟨W3.heap.size + z2.bs.size, 3, none⟩ = some (.int .i64 100000) := cell_of_block Zau3.out 3 (by simp)
  have ea4u3 : u3.cell? ⟨W3.heap.size + z2.bs.size, 4, none⟩ = some (.int .i64 32000) := cell_of_block Zau3.out 4 (by simp)
  have ea5u3 : u3.cell? ⟨W3.heap.size + z2.bs.size, 5, none⟩ = some (.int .i64 65000) := cell_of_block Zau3.out 5 (by simp)
  have ea6u3 : u3.cell? ⟨W3.heap.size + z2.bs.size, 6, none⟩ = some (.int .i64 24000) := cell_of_block Zau3.out 6 (by simp)
  have ea7u3 : u3.cell? ⟨W3.heap.size + z2.bs.size, 7, none⟩ = some (.int .i64 49000) := cell_of_block Zau3.out 7 (by simp)
  have ea8u3 : u3.cell? ⟨W3.heap.size + z2.bs.size, 8, none⟩ = some (.int .i64 24000) := cell_of_block Zau3.out 8 (by simp)
  have ea9u3 : u3.cell? ⟨W3.heap.size + z2.bs.size, 9, none⟩ = some (.int .i64 49000) := cell_of_block Zau3.out 9 (by simp)
  have ea10u3 : u3.cell? ⟨W3.heap.size + z2.bs.size, 10, none⟩ = some (.int .i64 25750) := cell_of_block Zau3.out 10 (by simp)
  have ea11u3 : u3.cell? ⟨W3.heap.size + z2.bs.size, 11, none⟩ = some (.int .i64 26500) := cell_of_block Zau3.out 11 (by simp)
  have ea12u3 : u3.cell? ⟨W3.heap.size + z2.bs.size, 12, none⟩ = some (.int .i64 40000000) := cell_of_block Zau3.out 12 (by simp)
  have lau3 := (Array.getElem?_eq_some_iff.1 Zau3.out).1
  have ex0u3 : u3.cell? ⟨W5.heap.size, 0, none⟩ = some (.int .i64 900000) := cell_of_block Zxu3.out 0 (by simp)
  have ex1u3 : u3.cell? ⟨W5.heap.size, 1, none⟩ = some (.int .i64 950000) := cell_of_block Zxu3.out 1 (by simp)
  have ex2u3 : u3.cell? ⟨W5.heap.size, 2, none⟩ = some (.int .i64 50000) := cell_of_block Zxu3.out 2 (by simp)
  have ex3u3 : u3.cell? ⟨W5.heap.size, 3, none⟩ = some (.int .i64 100000) := cell_of_block Zxu3.out 3 (by simp)
  have ex4u3 : u3.cell? ⟨W5.heap.size, 4, none⟩ = some (.int .i64 32000) := cell_of_block Zxu3.out 4 (by simp)
  have ex5u3 : u3.cell? ⟨W5.heap.size, 5, none⟩ = some (.int .i64 65000) := cell_of_block Zxu3.out 5 (by simp)
  have ex6u3 : u3.cell? ⟨W5.heap.size, 6, none⟩ = some (.int .i64 24000) := cell_of_block Zxu3.out 6 (by simp)
  have ex7u3 : u3.cell? ⟨W5.heap.size, 7, none⟩ = some (.int .i64 49000) := cell_of_block Zxu3.out 7 (by simp)
  have ex8u3 : u3.cell? ⟨W5.heap.size, 8, none⟩ = some (.int .i64 24000) := cell_of_block Zxu3.out 8 (by simp)
  have ex9u3 : u3.cell? ⟨W5.heap.size, 9, none⟩ = some (.int .i64 49000) := cell_of_block Zxu3.out 9 (by simp)
  have ex10u3 : u3.cell? ⟨W5.heap.size, 10, none⟩ = some (.int .i64 25750) := cell_of_block Zxu3.out 10 (by simp)
  have ex11u3 : u3.cell? ⟨W5.heap.size, 11, none⟩ = some (.int .i64 26500) := cell_of_block Zxu3.out 11 (by simp)
  have ex12u3 : u3.cell? ⟨W5.heap.size, 12, none⟩ = some (.int .i64 40000000) := cell_of_block Zxu3.out 12 (by simp)
  have lxu3 := (Array.getElem?_eq_some_iff.1 Zxu3.out).1
  go_wp2_with fail
  refine (BO1'.out _).mono ?_
  rintro e w1 ⟨rfl, rfl⟩
  go_wp2_with fail
  refine (BO2'.out _).mono ?_
  rintro e w1 ⟨rfl, rfl⟩
  go_wp2_with fail
  refine (BO3'.out _).mono ?_
  rintro e w1 ⟨rfl, rfl⟩
  go_wp2_with fail
  refine (Calls.grown (VE'.out _)).mono ?_
  rintro e w1 ⟨rfl, z10, rfl⟩
  go_upto_region 17 with (fail)
  obtain ⟨W9, hW9⟩ : ∃ W9, gw u3 z10 = W9 := ⟨_, rfl⟩
  have hbW9 : Below u3.heap.size u3 W9 := by rw [← hW9]; exact below_gw u3 z10
  have ZyW9 := Lib.hid ((hbW9.block _ (Array.getElem?_eq_some_iff.1 Zyu3.out).1).trans Zyu3.out)
  have ZvW9 := Lib.hid ((hbW9.block _ (Array.getElem?_eq_some_iff.1 Zvu3.out).1).trans Zvu3.out)
  have ZoW9 := Lib.hid ((hbW9.block _ (Array.getElem?_eq_some_iff.1 Zou3.out).1).trans Zou3.out)
  have ZlW9 := Lib.hid ((hbW9.block _ (Array.getElem?_eq_some_iff.1 Zlu3.out).1).trans Zlu3.out)
  have ZaW9 := Lib.hid ((hbW9.block _ (Array.getElem?_eq_some_iff.1 Zau3.out).1).trans Zau3.out)
  have ZuW9 := Lib.hid ((hbW9.block _ (Array.getElem?_eq_some_iff.1 Zuu3.out).1).trans Zuu3.out)
  have ZxW9 := Lib.hid ((hbW9.block _ (Array.getElem?_eq_some_iff.1 Zxu3.out).1).trans Zxu3.out)
  have ZcW9 := Lib.hid ((hbW9.block _ (Array.getElem?_eq_some_iff.1 Zcu3.out).1).trans Zcu3.out)
  have ZmW9 := Lib.hid ((hbW9.block _ (Array.getElem?_eq_some_iff.1 Zmu3.out).1).trans Zmu3.out)
  have HBW9 := Lib.hid (thru hbW9 HBu3.out)
  have SBW9 := Lib.hid hbW9; clear hbW9
  have HWW9 := Lib.hid hW9; clear hW9
  rw [HWW9.out]
  clear eo0u3 eo1u3 eo2u3 eo3u3 el0u3 el1u3 ea0u3 ea1u3 ea2u3 ea3u3 ea4u3 ea5u3 ea6u3 ea7u3 ea8u3 ea9u3 ea10u3 ea11u3 ea12u3 ex0u3 ex1u3 ex2u3 ex3u3 ex4u3 ex5u3 ex6u3 ex7u3 ex8u3 ex9u3 ex10u3 ex11u3 ex12u3
  have S9 := Lib.hid (Su3.out.trans (SBW9.out.mono Su3.out.size))
  have ea0W9 : W9.cell? ⟨W3.heap.size + z2.bs.size, 0, none⟩ = some (.int .i64 900000) := cell_of_block ZaW9.out 0 (by simp)
  have ea1W9 : W9.cell? ⟨W3.heap.size + z2.bs.size, 1, none⟩ = some (.int .i64 950000) := cell_of_block ZaW9.out 1 (by simp)
  have ea2W9 : W9.cell? ⟨W3.heap.size + z2.bs.size, 2, none⟩ = some (.int .i64 50000) := cell_of_block ZaW9.out 2 (by simp)
  have ea3W9 : W9.cell? ⟨W3.heap.size + z2.bs.size, 3, none⟩ = some (.int .i64 100000) := cell_of_block ZaW9.out 3 (by simp)
  have ea4W9 : W9.cell? ⟨W3.heap.size + z2.bs.size, 4, none⟩ = some (.int .i64 32000) := cell_of_block ZaW9.out 4 (by simp)
  have ea5W9 : W9.cell? ⟨W3.heap.size + z2.bs.size, 5, none⟩ = some (.int .i64 65000) := cell_of_block ZaW9.out 5 (by simp)
  have ea6W9 : W9.cell? ⟨W3.heap.size + z2.bs.size, 6, none⟩ = some (.int .i64 24000) := cell_of_block ZaW9.out 6 (by simp)
  have ea7W9 : W9.cell? ⟨W3.heap.size + z2.bs.size, 7, none⟩ = some (.int .i64 49000) := cell_of_block ZaW9.out 7 (by simp)
  have ea8W9 : W9.cell? ⟨W3.heap.size + z2.bs.size, 8, none⟩ = some (.int .i64 24000) := cell_of_block ZaW9.out 8 (by simp)
  have ea9W9 : W9.cell? ⟨W3.heap.size + z2.bs.size, 9, none⟩ = some (.int .i64 49000) := cell_of_block ZaW9.out 9 (by simp)
  have ea10W9 : W9.cell? ⟨W3.heap.size + z2.bs.size, 10, none⟩ = some (.int .i64 25750) := cell_of_block ZaW9.out 10 (by simp)
  have ea11W9 : W9.cell? ⟨W3.heap.size + z2.bs.size, 11, none⟩ = some (.int .i64 26500) := cell_of_block ZaW9.out 11 (by simp)
  have ea12W9 : W9.cell? ⟨W3.heap.size + z2.bs.size, 12, none⟩ = some (.int .i64 40000000) := cell_of_block ZaW9.out 12 (by simp)
  have laW9 := (Array.getElem?_eq_some_iff.1 ZaW9.out).1
  have ex0W9 : W9.cell? ⟨W5.heap.size, 0, none⟩ = some (.int .i64 900000) := cell_of_block ZxW9.out 0 (by simp)
  have ex1W9 : W9.cell? ⟨W5.heap.size, 1, none⟩ = some (.int .i64 950000) := cell_of_block ZxW9.out 1 (by simp)
  have ex2W9 : W9.cell? ⟨W5.heap.size, 2, none⟩ = some (.int .i64 50000) := cell_of_block ZxW9.out 2 (by simp)
  have ex3W9 : W9.cell? ⟨W5.heap.size, 3, none⟩ = some (.int .i64 100000) := cell_of_block ZxW9.out 3 (by simp)
  have ex4W9 : W9.cell? ⟨W5.heap.size, 4, none⟩ = some (.int .i64 32000) := cell_of_block ZxW9.out 4 (by simp)
  have ex5W9 : W9.cell? ⟨W5.heap.size, 5, none⟩ = some (.int .i64 65000) := cell_of_block ZxW9.out 5 (by simp)
  have ex6W9 : W9.cell? ⟨W5.heap.size, 6, none⟩ = some (.int .i64 24000) := cell_of_block ZxW9.out 6 (by simp)
  have ex7W9 : W9.cell? ⟨W5.heap.size, 7, none⟩ = some (.int .i64 49000) := cell_of_block ZxW9.out 7 (by simp)
  have ex8W9 : W9.cell? ⟨W5.heap.size, 8, none⟩ = some (.int .i64 24000) := cell_of_block ZxW9.out 8 (by simp)
  have ex9W9 : W9.cell? ⟨W5.heap.size, 9, none⟩ = some (.int .i64 49000) := cell_of_block ZxW9.out 9 (by simp)
  have ex10W9 : W9.cell? ⟨W5.heap.size, 10, none⟩ = some (.int .i64 25750) := cell_of_block ZxW9.out 10 (by simp)
  have ex11W9 : W9.cell? ⟨W5.heap.size, 11, none⟩ = some (.int .i64 26500) := cell_of_block ZxW9.out 11 (by simp)
  have ex12W9 : W9.cell? ⟨W5.heap.size, 12, none⟩ = some (.int .i64 40000000) := cell_of_block ZxW9.out 12 (by simp)
  have lxW9 := (Array.getElem?_eq_some_iff.1 ZxW9.out).1
  have zz : (W9.alloc (.cells #[.int .i64 0, .int .i64 1, .int .i64 1, .int .i64 1] 3)).heap[W9.heap.size]? = some (.cells #[.int .i64 0, .int .i64 1, .int .i64 1, .int .i64 1] 3 (0, 0)) := alloc_at rfl
  have lz := (Array.getElem?_eq_some_iff.1 zz).1
  have I4 := Lib.hid (show IntsAt (W9.alloc (.cells #[.int .i64 0, .int .i64 1, .int .i64 1, .int .i64 1] 3)) (some ⟨W9.heap.size, 0, none⟩) 4 (fun i => ((([0, 1, 1, 1] : List Nat).getD i 0 : Nat) : Int)) from .inr ⟨_, 0, rfl, lz, fun i hi => by have a1 := cell_of_block zz i (by simp; omega); rcases i with _ | _ | _ | _ | i <;> first | exact a1 | omega⟩); clear zz lz
  go_wp2_with fail
  refine (Calls.grown (ints_t a1 _ 4 q1 4 _ _ (by omega) (HT1c.out.below (thru (below_alloc W9 (.cells #[.int .i64 0, .int .i64 1, .int .i64 1, .int .i64 1] 3)) SBW9.out)) I4.out)).mono ?_
  rintro e w1 ⟨rfl, z30, rfl⟩
  obtain ⟨x31, hx31⟩ := gw_of_below (thru (below_gw (W9.alloc (.cells #[.int .i64 0, .int .i64 1, .int .i64 1, .int .i64 1] 3)) z30) (below_alloc W9 (.cells #[.int .i64 0, .int .i64 1, .int .i64 1, .int .i64 1] 3)))
  rw [hx31]
  clear hx31
  go_upto_region 18 with (fail)
  obtain ⟨W10, hW10⟩ : ∃ W10, gw W9 x31 = W10 := ⟨_, rfl⟩
  have hbW10 : Below W9.heap.size W9 W10 := by rw [← hW10]; exact below_gw W9 x31
  have ZyW10 := Lib.hid ((hbW10.block _ (Array.getElem?_eq_some_iff.1 ZyW9.out).1).trans ZyW9.out)
  have ZvW10 := Lib.hid ((hbW10.block _ (Array.getElem?_eq_some_iff.1 ZvW9.out).1).trans ZvW9.out)
  have ZoW10 := Lib.hid ((hbW10.block _ (Array.getElem?_eq_some_iff.1 ZoW9.out).1).trans ZoW9.out)
  have ZlW10 := Lib.hid ((hbW10.block _ (Array.getElem?_eq_some_iff.1 ZlW9.out).1).trans ZlW9.out)
  have ZaW10 := Lib.hid ((hbW10.block _ (Array.getElem?_eq_some_iff.1 ZaW9.out).1).trans ZaW9.out)
  have ZuW10 := Lib.hid ((hbW10.block _ (Array.getElem?_eq_some_iff.1 ZuW9.out).1).trans ZuW9.out)
  have ZxW10 := Lib.hid ((hbW10.block _ (Array.getElem?_eq_some_iff.1 ZxW9.out).1).trans ZxW9.out)
  have ZcW10 := Lib.hid ((hbW10.block _ (Array.getElem?_eq_some_iff.1 ZcW9.out).1).trans ZcW9.out)
  have ZmW10 := Lib.hid ((hbW10.block _ (Array.getElem?_eq_some_iff.1 ZmW9.out).1).trans ZmW9.out)
  have HBW10 := Lib.hid (thru hbW10 HBW9.out)
  have SBW10 := Lib.hid hbW10; clear hbW10
  have HWW10 := Lib.hid hW10; clear hW10
  rw [HWW10.out]
  clear ea0W9 ea1W9 ea2W9 ea3W9 ea4W9 ea5W9 ea6W9 ea7W9 ea8W9 ea9W9 ea10W9 ea11W9 ea12W9 ex0W9 ex1W9 ex2W9 ex3W9 ex4W9 ex5W9 ex6W9 ex7W9 ex8W9 ex9W9 ex10W9 ex11W9 ex12W9
  have S10 := Lib.hid (S9.out.trans (SBW10.out.mono S9.out.size))
  have ea0W10 : W10.cell? ⟨W3.heap.size + z2.bs.size, 0, none⟩ = some (.int .i64 900000) := cell_of_block ZaW10.out 0 (by simp)
  have ea1W10 : W10.cell? ⟨W3.heap.size + z2.bs.size, 1, none⟩ = some (.int .i64 950000) := cell_of_block ZaW10.out 1 (by simp)
  have ea2W10 : W10.cell? ⟨W3.heap.size + z2.bs.size, 2, none⟩ = some (.int .i64 50000) := cell_of_block ZaW10.out 2 (by simp)
  have ea3W10 : W10.cell? ⟨W3.heap.size + z2.bs.size, 3, none⟩ = some (.int .i64 100000) := cell_of_block ZaW10.out 3 (by simp)
  have ea4W10 : W10.cell? ⟨W3.heap.size + z2.bs.size, 4, none⟩ = some (.int .i64 32000) := cell_of_block ZaW10.out 4 (by simp)
  have ea5W10 : W10.cell? ⟨W3.heap.size + z2.bs.size, 5, none⟩ = some (.int .i64 65000) := cell_of_block ZaW10.out 5 (by simp)
  have ea6W10 : W10.cell? ⟨W3.heap.size + z2.bs.size, 6, none⟩ = some (.int .i64 24000) := cell_of_block ZaW10.out 6 (by simp)
  have ea7W10 : W10.cell? ⟨W3.heap.size + z2.bs.size, 7, none⟩ = some (.int .i64 49000) := cell_of_block ZaW10.out 7 (by simp)
  have ea8W10 : W10.cell? ⟨W3.heap.size + z2.bs.size, 8, none⟩ = some (.int .i64 24000) := cell_of_block ZaW10.out 8 (by simp)
  have ea9W10 : W10.cell? ⟨W3.heap.size + z2.bs.size, 9, none⟩ = some (.int .i64 49000) := cell_of_block ZaW10.out 9 (by simp)
  have ea10W10 : W10.cell? ⟨W3.heap.size + z2.bs.size, 10, none⟩ = some (.int .i64 25750) := cell_of_block ZaW10.out 10 (by simp)
  have ea11W10 : W10.cell? ⟨W3.heap.size + z2.bs.size, 11, none⟩ = some (.int .i64 26500) := cell_of_block ZaW10.out 11 (by simp)
  have ea12W10 : W10.cell? ⟨W3.heap.size + z2.bs.size, 12, none⟩ = some (.int .i64 40000000) := cell_of_block ZaW10.out 12 (by simp)
  have laW10 := (Array.getElem?_eq_some_iff.1 ZaW10.out).1
  have ex0W10 : W10.cell? ⟨W5.heap.size, 0, none⟩ = some (.int .i64 900000) := cell_of_block ZxW10.out 0 (by simp)
  have ex1W10 : W10.cell? ⟨W5.heap.size, 1, none⟩ = some (.int .i64 950000) := cell_of_block ZxW10.out 1 (by simp)
  have ex2W10 : W10.cell? ⟨W5.heap.size, 2, none⟩ = some (.int .i64 50000) := cell_of_block ZxW10.out 2 (by simp)
  have ex3W10 : W10.cell? ⟨W5.heap.size, 3, none⟩ = some (.int .i64 100000) := cell_of_block ZxW10.out 3 (by simp)
  have ex4W10 : W10.cell? ⟨W5.heap.size, 4, none⟩ = some (.int .i64 32000) := cell_of_block ZxW10.out 4 (by simp)
  have ex5W10 : W10.cell? ⟨W5.heap.size, 5, none⟩ = some (.int .i64 65000) := cell_of_block ZxW10.out 5 (by simp)
  have ex6W10 : W10.cell? ⟨W5.heap.size, 6, none⟩ = some (.int .i64 24000) := cell_of_block ZxW10.out 6 (by simp)
  have ex7W10 : W10.cell? ⟨W5.heap.size, 7, none⟩ = some (.int .i64 49000) := cell_of_block ZxW10.out 7 (by simp)
  have ex8W10 : W10.cell? ⟨W5.heap.size, 8, none⟩ = some (.int .i64 24000) := cell_of_block ZxW10.out 8 (by simp)
  have ex9W10 : W10.cell? ⟨W5.heap.size, 9, none⟩ = some (.int .i64 49000) := cell_of_block ZxW10.out 9 (by simp)
  have ex10W10 : W10.cell? ⟨W5.heap.size, 10, none⟩ = some (.int .i64 25750) := cell_of_block ZxW10.out 10 (by simp)
  have ex11W10 : W10.cell? ⟨W5.heap.size, 11, none⟩ = some (.int .i64 26500) := cell_of_block ZxW10.out 11 (by simp)
  have ex12W10 : W10.cell? ⟨W5.heap.size, 12, none⟩ = some (.int .i64 40000000) := cell_of_block ZxW10.out 12 (by simp)
  have lxW10 := (Array.getElem?_eq_some_iff.1 ZxW10.out).1
  go_wp2_with fail
  refine (Calls.grown (alive_any _)).mono ?_
  rintro e w1 ⟨rfl, z32, rfl⟩
  obtain ⟨V9, hV9⟩ : ∃ z, gw W10 z32 = z := ⟨_, rfl⟩
  have b9 := below_gw W10 z32
  rw [hV9] at b9 ⊢
  clear hV9
  have LB9 := Lib.hid b9; clear b9
  have SBV9 := Lib.hid (LB9.out)
  have ZyV9 := Lib.hid ((SBV9.out.block _ (Array.getElem?_eq_some_iff.1 ZyW10.out).1).trans ZyW10.out)
  have ZvV9 := Lib.hid ((SBV9.out.block _ (Array.getElem?_eq_some_iff.1 ZvW10.out).1).trans ZvW10.out)
  have ZoV9 := Lib.hid ((SBV9.out.block _ (Array.getElem?_eq_some_iff.1 ZoW10.out).1).trans ZoW10.out)
  have ZlV9 := Lib.hid ((SBV9.out.block _ (Array.getElem?_eq_some_iff.1 ZlW10.out).1).trans ZlW10.out)
  have ZaV9 := Lib.hid ((SBV9.out.block _ (Array.getElem?_eq_some_iff.1 ZaW10.out).1).trans ZaW10.out)
  have ZuV9 := Lib.hid ((SBV9.out.block _ (Array.getElem?_eq_some_iff.1 ZuW10.out).1).trans ZuW10.out)
  have ZxV9 := Lib.hid ((SBV9.out.block _ (Array.getElem?_eq_some_iff.1 ZxW10.out).1).trans ZxW10.out)
  have ZcV9 := Lib.hid ((SBV9.out.block _ (Array.getElem?_eq_some_iff.1 ZcW10.out).1).trans ZcW10.out)
  have ZmV9 := Lib.hid ((SBV9.out.block _ (Array.getElem?_eq_some_iff.1 ZmW10.out).1).trans ZmW10.out)
  have HBV9 := Lib.hid (thru SBV9.out HBW10.out)
  have SV9 := Lib.hid (S10.out.trans (SBV9.out.mono S10.out.size))
  have ea0V9 : V9.cell? ⟨W3.heap.size + z2.bs.size, 0, none⟩ = some (.int .i64 900000) := cell_of_block ZaV9.out 0 (by simp)
  have ea1V9 : V9.cell? ⟨W3.heap.size + z2.bs.size, 1, none⟩ = some (.int .i64 950000) := cell_of_block ZaV9.out 1 (by simp)
  have ea2V9 : V9.cell? ⟨W3.heap.size + z2.bs.size, 2, none⟩ = some (.int .i64 50000) := cell_of_block ZaV9.out 2 (by simp)
  have ea3V9 : V9.cell? ⟨W3.heap.size + z2.bs.size, 3, none⟩ = some (.int .i64 100000) := cell_of_block ZaV9.out 3 (by simp)
  have ea4V9 : V9.cell? ⟨W3.heap.size + z2.bs.size, 4, none⟩ = some (.int .i64 32000) := cell_of_block ZaV9.out 4 (by simp)
  have ea5V9 : V9.cell? ⟨W3.heap.size + z2.bs.size, 5, none⟩ = some (.int .i64 65000) := cell_of_block ZaV9.out 5 (by simp)
  have ea6V9 : V9.cell? ⟨W3.heap.size + z2.bs.size, 6, none⟩ = some (.int .i64 24000) := cell_of_block ZaV9.out 6 (by simp)
  have ea7V9 : V9.cell? ⟨W3.heap.size + z2.bs.size, 7, none⟩ = some (.int .i64 49000) := cell_of_block ZaV9.out 7 (by simp)
  have ea8V9 : V9.cell? ⟨W3.heap.size + z2.bs.size, 8, none⟩ = some (.int .i64 24000) := cell_of_block ZaV9.out 8 (by simp)
  have ea9V9 : V9.cell? ⟨W3.heap.size + z2.bs.size, 9, none⟩ = some (.int .i64 49000) := cell_of_block ZaV9.out 9 (by simp)
  have ea10V9 : V9.cell? ⟨W3.heap.size + z2.bs.size, 10, none⟩ = some (.int .i64 25750) := cell_of_block ZaV9.out 10 (by simp)
  have ea11V9 : V9.cell? ⟨W3.heap.size + z2.bs.size, 11, none⟩ = some (.int .i64 26500) := cell_of_block ZaV9.out 11 (by simp)
  have ea12V9 : V9.cell? ⟨W3.heap.size + z2.bs.size, 12, none⟩ = some (.int .i64 40000000) := cell_of_block ZaV9.out 12 (by simp)
  have laV9 := (Array.getElem?_eq_some_iff.1 ZaV9.out).1
  have ex0V9 : V9.cell? ⟨W5.heap.size, 0, none⟩ = some (.int .i64 900000) := cell_of_block ZxV9.out 0 (by simp)
  have ex1V9 : V9.cell? ⟨W5.heap.size, 1, none⟩ = some (.int .i64 950000) := cell_of_block ZxV9.out 1 (by simp)
  have ex2V9 : V9.cell? ⟨W5.heap.size, 2, none⟩ = some (.int .i64 50000) := cell_of_block ZxV9.out 2 (by simp)
  have ex3V9 : V9.cell? ⟨W5.heap.size, 3, none⟩ = some (.int .i64 100000) := cell_of_block ZxV9.out 3 (by simp)
  have ex4V9 : V9.cell? ⟨W5.heap.size, 4, none⟩ = some (.int .i64 32000) := cell_of_block ZxV9.out 4 (by simp)
  have ex5V9 : V9.cell? ⟨W5.heap.size, 5, none⟩ = some (.int .i64 65000) := cell_of_block ZxV9.out 5 (by simp)
  have ex6V9 : V9.cell? ⟨W5.heap.size, 6, none⟩ = some (.int .i64 24000) := cell_of_block ZxV9.out 6 (by simp)
  have ex7V9 : V9.cell? ⟨W5.heap.size, 7, none⟩ = some (.int .i64 49000) := cell_of_block ZxV9.out 7 (by simp)
  have ex8V9 : V9.cell? ⟨W5.heap.size, 8, none⟩ = some (.int .i64 24000) := cell_of_block ZxV9.out 8 (by simp)
  have ex9V9 : V9.cell? ⟨W5.heap.size, 9, none⟩ = some (.int .i64 49000) := cell_of_block ZxV9.out 9 (by simp)
  have ex10V9 : V9.cell? ⟨W5.heap.size, 10, none⟩ = some (.int .i64 25750) := cell_of_block ZxV9.out 10 (by simp)
  have ex11V9 : V9.cell? ⟨W5.heap.size, 11, none⟩ = some (.int .i64 26500) := cell_of_block ZxV9.out 11 (by simp)
  have ex12V9 : V9.cell? ⟨W5.heap.size, 12, none⟩ = some (.int .i64 40000000) := cell_of_block ZxV9.out 12 (by simp)
  have lxV9 := (Array.getElem?_eq_some_iff.1 ZxV9.out).1
  have zz : (V9.alloc (.cells #[.int .i64 50, .int .i64 50, .int .i64 75, .int .i64 75, .int .i64 87, .int .i64 88] 23)).heap[V9.heap.size]? = some (.cells #[.int .i64 50, .int .i64 50, .int .i64 75, .int .i64 75, .int .i64 87, .int .i64 88] 23 (0, 0)) := alloc_at rfl
  have S6 := Lib.hid (show SpansAt (V9.alloc (.cells #[.int .i64 50, .int .i64 50, .int .i64 75, .int .i64 75, .int .i64 87, .int .i64 88] 23)) (some ⟨V9.heap.size, 0, none⟩) 3 (fun i => airL 0 500 hF (i + 1)) (fun i => airH 0 500 hF (i + 1)) from spans_lit (Array.getElem?_eq_some_iff.1 zz).1 (fun i hi => by have a1 := cell_of_block zz (i * 2) (by simp; omega); have a2 := cell_of_block zz (i * 2 + 1) (by simp; omega); rcases i with _ | _ | _ | i <;> first | exact ⟨a1, a2⟩ | omega)); clear zz
  go_wp2_with fail
  refine (Calls.grown (sameSpans_t a3 _ 3 q3 3 _ _ _ (by omega) (HT3.out.below (thru (below_alloc V9 (.cells #[.int .i64 50, .int .i64 50, .int .i64 75, .int .i64 75, .int .i64 87, .int .i64 88] 23)) (thru LB9.out (thru SBW10.out SBW9.out)))) S6.out)).mono ?_
  rintro e w1 ⟨rfl, z40, rfl⟩
  go_wp2_with fail
  go_ret
  exact ⟨rfl, (HBV9.out.alloc HBV9.out.size _).gw z40⟩
end Go.Proofs.Ytecbacbecopbeaa
