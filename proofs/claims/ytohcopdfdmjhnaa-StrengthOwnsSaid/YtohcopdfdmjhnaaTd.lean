/- Contract of alive: true. No conditions beyond each theorem's own. -/
import Derived.Test.YtohcopdfdmjhnaaTb
import Derived.Test.YtohcopdfdmjhnaaTc
import Derived.Test.YtohcopdfdmjhnaaSw
set_option linter.unusedVariables false
set_option linter.unusedSimpArgs false
set_option linter.unusedSectionVars false
set_option linter.constructorNameAsVariable false
namespace Go.Proofs.Ytohcopdfdmjhnaa.L1
open Go.RowKit
open Go.Proofs.Ytohcopdfdmjhnaa

attribute [local go_sem] gw_cell gw_frozen gw_size

section
variable {t : Tab} {lo hi tlo thi : Int} {i : Nat}
theorem frN_at (g : t.Good) (ft : t.tb.FitT tlo thi) (hi : i < t.tb.cnt) (h0 : ∀ j, j + 1 = i → t.tb.frB lo tlo thi j = false) (h1 : t.tb.frB lo tlo thi i = true) : t.tb.frN lo tlo thi = i := by
  refine (okN_unique (i := i) (by omega) (fun j hj => ?_) (fun _ => by rw [h1]; rfl)).symm
  cases h : t.tb.frB lo tlo thi j with
  | false => rfl
  | true =>
    have := frB_mono g ft j (i - 1) (by omega) (by omega) h
    rw [h0 (i - 1) (by omega)] at this; cases this
theorem frN_end (g : t.Good) (ft : t.tb.FitT tlo thi) (h0 : ∀ j, j + 1 = t.tb.cnt → t.tb.frB lo tlo thi j = false) : t.tb.frN lo tlo thi = t.tb.cnt := by
  refine (okN_unique (i := t.tb.cnt) (by omega) (fun j hj => ?_) (fun h => by omega)).symm
  cases h : t.tb.frB lo tlo thi j with
  | false => rfl
  | true =>
    have := frB_mono g ft j (t.tb.cnt - 1) (by omega) (by omega) h
    rw [h0 (t.tb.cnt - 1) (by omega)] at this; cases this
theorem paN_at (g : t.Good) (ft : t.tb.FitT tlo thi) (hi' : i < t.tb.cnt) (h0 : ∀ j, j + 1 = i → t.tb.paB hi tlo thi j = false) (h1 : t.tb.paB hi tlo thi i = true) : t.tb.paN hi tlo thi = i := by
  refine (okN_unique (i := i) (by omega) (fun j hj => ?_) (fun _ => by rw [h1]; rfl)).symm
  cases h : t.tb.paB hi tlo thi j with
  | false => rfl
  | true =>
    have := paB_mono g ft j (i - 1) (by omega) (by omega) h
    rw [h0 (i - 1) (by omega)] at this; cases this
end

theorem samp_ok (b : Nat) : (sampT b).okB = true := by kernel_rfl
theorem samp_good (b : Nat) : (sampT b).Good := Tab.good (samp_ok b)
theorem samp_warm (b : Nat) : (sampT b).fitT 200 300 = true := by kernel_rfl
theorem samp_fr (b : Nat) : (sampT b).tb.frN 5000 200 300 = 4529 :=
  frN_at (samp_good b) (Tab.fitT_t (samp_warm b)) (by show 4529 < 10001; omega) (fun j hj => by obtain rfl : j = 4528 := (by omega); kernel_rfl) (by kernel_rfl)
theorem samp_pa (b : Nat) : (sampT b).tb.paN 5000 200 300 = 5001 :=
  paN_at (samp_good b) (Tab.fitT_t (samp_warm b)) (by show 5001 < 10001; omega) (fun j hj => by obtain rfl : j = 5000 := (by omega); kernel_rfl) (by kernel_rfl)
theorem samp_none (b : Nat) : (sampT b).tb.noneB 5000 5000 200 300 = false := Tb.noneB_f.2 ⟨by rw [samp_fr]; show 4529 < 10001; omega, by rw [samp_pa]; omega⟩
theorem samp_strE (b : Nat) : (sampT b).strE 5000 5000 200 300 = 0 := Tab.strE_ok (samp_ok b) (by omega) (samp_warm b) (samp_none b)
theorem samp_from (b : Nat) : (sampT b).tb.from_ 5000 200 300 = 4529 := by unfold Tb.from_; rw [samp_fr]; rfl
theorem samp_past (b : Nat) : (sampT b).tb.past 5000 200 300 = 5001 := by unfold Tb.past; rw [samp_pa]; rfl
theorem samp_strL (b : Nat) : (sampT b).strL 5000 5000 200 300 = 4528 := by
  unfold Tab.strL; rw [if_pos (samp_strE b)]; unfold Tb.strLo; rw [samp_from]
  exact if_pos ⟨by show (0 : Int) < 4529; omega, of_decide_eq_false (by kernel_rfl)⟩
theorem samp_strH (b : Nat) : (sampT b).strH 5000 5000 200 300 = 5000 := by
  unfold Tab.strH; rw [if_pos (samp_strE b)]; unfold Tb.strHi; rw [samp_past]
  refine if_neg fun h => h.2 ?_
  kernel_rfl
theorem samp_voE (b : Nat) : (sampT b).voE 1009000 1009000 5000 5000 300 300 = 0 := by kernel_rfl
theorem samp_voLo (b : Nat) : (sampT b).voLo 1009000 1009000 5000 5000 300 300 = 1000000 := by kernel_rfl
theorem samp_voHi (b : Nat) : (sampT b).voHi 1009000 1009000 5000 5000 300 300 = 1000000 := by kernel_rfl
def sampP (i : Nat) : Prt := if i = 0 then ⟨1000, 1000, 6000, 6000⟩ else ⟨1000, 1000, 4000, 4000⟩
theorem samp_mixE : mixE 2 sampP 100 = 0 := by kernel_rfl
theorem samp_mixV : mixV 2 sampP 100 = ⟨1980, 2000, 5000, 5051⟩ := by kernel_rfl
theorem samp_parts {w : World} {b : Nat} (h : w.heap[b]? = some (.cells #[.int .i64 1000, .int .i64 1000, .int .i64 6000, .int .i64 6000, .int .i64 1000, .int .i64 1000, .int .i64 4000, .int .i64 4000] 43 (0, 0))) : PartsAt w (some ⟨b, 0, none⟩) 2 sampP := by
  refine .inr ⟨b, 0, rfl, (Array.getElem?_eq_some_iff.1 h).1, fun i hi => ?_⟩
  match i, hi with
  | 0, _ => exact ⟨cell_of_block h 0 (by simp), cell_of_block h 1 (by simp), cell_of_block h 2 (by simp), cell_of_block h 3 (by simp)⟩
  | 1, _ => exact ⟨cell_of_block h 4 (by simp), cell_of_block h 5 (by simp), cell_of_block h 6 (by simp), cell_of_block h 7 (by simp)⟩

set_option maxRecDepth 100000 in
set_option maxHeartbeats 4000000 in
theorem alive_any (w : World) : Calls Try.prog 15 #[] w fun e w' => e = .returned (.bool true) ∧ Below w.heap.size w w' := by
  go_enter Try.func15, Try.ntmps15
  go_wp2_with fail
  refine (sample_any w).mono ?_
  rintro e w1 ⟨b, rfl, IN, hb⟩
  have HB0 := Lib.hid hb; clear hb
  have ST := fun z => Strength_any (sampT b) 5000 5000 200 300 (gw w1 z) (IN.below (below_gw w1 z)) (samp_fits b)
  rw [samp_strE, samp_strL, samp_strH] at ST
  unfold Tab.val sampT sRows at ST ⊢
  dsimp only at ST ⊢
  have ST' := Lib.hid ST; clear ST IN
  go_wp2_with fail
  refine (Calls.grown (one_any _ _)).mono ?_
  rintro e w1 ⟨rfl, z1, rfl⟩
  go_wp2_with fail
  refine (Calls.gw_of (ST'.out _)).mono ?_
  rintro e w1 ⟨rfl, z2, rfl⟩
  go_upto_region 2 with (fail)
  obtain ⟨W2, hW2⟩ : ∃ W2, ((gw w1 z2)).alloc (.cells #[.int .i64 4528, .int .i64 5000] 27) = W2 := ⟨_, rfl⟩
  have hbW2 : Below w1.heap.size w1 W2 := by rw [← hW2]; exact (below_gw w1 z2).alloc (by simp [gw_size]) _
  have zaW2 : W2.heap[w1.heap.size + z2.bs.size]? = some (.cells #[.int .i64 4528, .int .i64 5000] 27 (0, 0)) := by rw [← hW2]; exact alloc_at (by simp [gw_size])
  have ZaW2 := Lib.hid zaW2; clear zaW2
  have HBW2 := Lib.hid (thru hbW2 HB0.out)
  have SBW2 := Lib.hid hbW2; clear hbW2
  have HWW2 := Lib.hid hW2; clear hW2
  rw [HWW2.out]
  have zsW2 := SBW2.out.size
  go_wp2_with fail
  refine (sample_any W2).mono ?_
  rintro e w3 ⟨b2, rfl, IN, hb3⟩
  have SBw3 := Lib.hid (hb3)
  have Zaw3 := Lib.hid ((SBw3.out.block _ (Array.getElem?_eq_some_iff.1 ZaW2.out).1).trans ZaW2.out)
  have HBw3 := Lib.hid (thru SBw3.out HBW2.out)
  have zsw3 := SBw3.out.size
  have VO := fun z => Volume_any (sampT b2) 1009000 1009000 5000 5000 300 300 (gw w3 z) (IN.below (below_gw w3 z)) (samp_fits b2)
  rw [samp_voE, samp_voLo, samp_voHi] at VO
  unfold Tab.val sampT sRows at VO ⊢
  dsimp only at VO ⊢
  have VO' := Lib.hid VO; clear VO IN hb3
  go_wp2_with fail
  refine (Calls.grown (one_any _ _)).mono ?_
  rintro e w1 ⟨rfl, z3, rfl⟩
  go_wp2_with fail
  refine (Calls.gw_of (one_any _ _)).mono ?_
  rintro e w1 ⟨rfl, z4, rfl⟩
  go_wp2_with fail
  refine (Calls.gw_of (one_any _ _)).mono ?_
  rintro e w1 ⟨rfl, z5, rfl⟩
  go_wp2_with fail
  refine (Calls.gw_of (VO'.out _)).mono ?_
  rintro e w1 ⟨rfl, z6, rfl⟩
  go_upto_region 3 with (fail)
  obtain ⟨W4, hW4⟩ : ∃ W4, ((gw w3 z6)).alloc (.cells #[.int .i64 1000000, .int .i64 1000000] 27) = W4 := ⟨_, rfl⟩
  have hbW4 : Below w3.heap.size w3 W4 := by rw [← hW4]; exact (below_gw w3 z6).alloc (by simp [gw_size]) _
  have ZaW4 := Lib.hid ((hbW4.block _ (Array.getElem?_eq_some_iff.1 Zaw3.out).1).trans Zaw3.out)
  have zvW4 : W4.heap[w3.heap.size + z6.bs.size]? = some (.cells #[.int .i64 1000000, .int .i64 1000000] 27 (0, 0)) := by rw [← hW4]; exact alloc_at (by simp [gw_size])
  have ZvW4 := Lib.hid zvW4; clear zvW4
  have HBW4 := Lib.hid (thru hbW4 HBw3.out)
  have SBW4 := Lib.hid hbW4; clear hbW4
  have HWW4 := Lib.hid hW4; clear hW4
  rw [HWW4.out]
  have zsW4 := SBW4.out.size
  go_wp2_with fail
  refine (Calls.grown (one_any _ _)).mono ?_
  rintro e w1 ⟨rfl, z7, rfl⟩
  go_wp2_with fail
  refine (Calls.gw_of (one_any _ _)).mono ?_
  rintro e w1 ⟨rfl, z8, rfl⟩
  go_wp2_with fail
  refine (Calls.gw_of (one_any _ _)).mono ?_
  rintro e w1 ⟨rfl, z9, rfl⟩
  go_wp2_with fail
  refine (Calls.gw_of (one_any _ _)).mono ?_
  rintro e w1 ⟨rfl, z10, rfl⟩
  go_wp2_with fail
  obtain ⟨W5, hW5⟩ : ∃ W5, ((gw W4 z10)).alloc (.cells #[.int .i64 1000, .int .i64 1000, .int .i64 6000, .int .i64 6000, .int .i64 1000, .int .i64 1000, .int .i64 4000, .int .i64 4000] 43) = W5 := ⟨_, rfl⟩
  have hbW5 : Below W4.heap.size W4 W5 := by rw [← hW5]; exact (below_gw W4 z10).alloc (by simp [gw_size]) _
  have ZaW5 := Lib.hid ((hbW5.block _ (Array.getElem?_eq_some_iff.1 ZaW4.out).1).trans ZaW4.out)
  have ZvW5 := Lib.hid ((hbW5.block _ (Array.getElem?_eq_some_iff.1 ZvW4.out).1).trans ZvW4.out)
  have zpW5 : W5.heap[W4.heap.size + z10.bs.size]? = some (.cells #[.int .i64 1000, .int .i64 1000, .int .i64 6000, .int .i64 6000, .int .i64 1000, .int .i64 1000, .int .i64 4000, .int .i64 4000] 43 (0, 0)) := by rw [← hW5]; exact alloc_at (by simp [gw_size])
  have ZpW5 := Lib.hid zpW5; clear zpW5
  have HBW5 := Lib.hid (thru hbW5 HBW4.out)
  have SBW5 := Lib.hid hbW5; clear hbW5
  have HWW5 := Lib.hid hW5; clear hW5
  rw [HWW5.out]
  have zsW5 := SBW5.out.size
  have MX := Mix_any _ 2 2 sampP 100 W5 (by omega) (samp_parts ZpW5.out)
  rw [samp_mixE, samp_mixV] at MX
  dsimp only at MX
  have MX' := Lib.hid MX; clear MX
  refine (Calls.grown (MX'.out)).mono ?_
  rintro e w1 ⟨rfl, z11, rfl⟩
  go_upto_region 5 with (fail)
  obtain ⟨W6, hW6⟩ : ∃ W6, (((gw W5 z11)).alloc (.cells #[.int .i64 1980, .int .i64 2000, .int .i64 5000, .int .i64 5051] 43)).alloc (.cells #[.int .i64 1980, .int .i64 2000, .int .i64 5000, .int .i64 5051] 43) = W6 := ⟨_, rfl⟩
  have hbW6 : Below W5.heap.size W5 W6 := by rw [← hW6]; exact ((below_gw W5 z11).alloc (by simp [gw_size]) _).alloc (by simp [gw_size] <;> omega) _
  have ZaW6 := Lib.hid ((hbW6.block _ (Array.getElem?_eq_some_iff.1 ZaW5.out).1).trans ZaW5.out)
  have ZvW6 := Lib.hid ((hbW6.block _ (Array.getElem?_eq_some_iff.1 ZvW5.out).1).trans ZvW5.out)
  have ZpW6 := Lib.hid ((hbW6.block _ (Array.getElem?_eq_some_iff.1 ZpW5.out).1).trans ZpW5.out)
  have zmW6 : W6.heap[W5.heap.size + z11.bs.size]? = some (.cells #[.int .i64 1980, .int .i64 2000, .int .i64 5000, .int .i64 5051] 43 (0, 0)) := by rw [← hW6]; exact alloc_keep (alloc_at (by simp [gw_size]))
  have ZmW6 := Lib.hid zmW6; clear zmW6
  have zxW6 : W6.heap[W5.heap.size + z11.bs.size + 1]? = some (.cells #[.int .i64 1980, .int .i64 2000, .int .i64 5000, .int .i64 5051] 43 (0, 0)) := by rw [← hW6]; exact alloc_at (by simp [gw_size] <;> omega)
  have ZxW6 := Lib.hid zxW6; clear zxW6
  have HBW6 := Lib.hid (thru hbW6 HBW5.out)
  have SBW6 := Lib.hid hbW6; clear hbW6
  have HWW6 := Lib.hid hW6; clear hW6
  rw [HWW6.out]
  have zsW6 := SBW6.out.size
  have ea0W6 : W6.cell? ⟨w1.heap.size + z2.bs.size, 0, none⟩ = some (.int .i64 4528) := cell_of_block ZaW6.out 0 (by simp)
  have ea1W6 : W6.cell? ⟨w1.heap.size + z2.bs.size, 1, none⟩ = some (.int .i64 5000) := cell_of_block ZaW6.out 1 (by simp)
  have laW6 := (Array.getElem?_eq_some_iff.1 ZaW6.out).1
  have ev0W6 : W6.cell? ⟨w3.heap.size + z6.bs.size, 0, none⟩ = some (.int .i64 1000000) := cell_of_block ZvW6.out 0 (by simp)
  have ev1W6 : W6.cell? ⟨w3.heap.size + z6.bs.size, 1, none⟩ = some (.int .i64 1000000) := cell_of_block ZvW6.out 1 (by simp)
  have lvW6 := (Array.getElem?_eq_some_iff.1 ZvW6.out).1
  have em0W6 : W6.cell? ⟨W5.heap.size + z11.bs.size, 0, none⟩ = some (.int .i64 1980) := cell_of_block ZmW6.out 0 (by simp)
  have em1W6 : W6.cell? ⟨W5.heap.size + z11.bs.size, 1, none⟩ = some (.int .i64 2000) := cell_of_block ZmW6.out 1 (by simp)
  have em2W6 : W6.cell? ⟨W5.heap.size + z11.bs.size, 2, none⟩ = some (.int .i64 5000) := cell_of_block ZmW6.out 2 (by simp)
  have em3W6 : W6.cell? ⟨W5.heap.size + z11.bs.size, 3, none⟩ = some (.int .i64 5051) := cell_of_block ZmW6.out 3 (by simp)
  have lmW6 := (Array.getElem?_eq_some_iff.1 ZmW6.out).1
  have ex0W6 : W6.cell? ⟨W5.heap.size + z11.bs.size + 1, 0, none⟩ = some (.int .i64 1980) := cell_of_block ZxW6.out 0 (by simp)
  have ex1W6 : W6.cell? ⟨W5.heap.size + z11.bs.size + 1, 1, none⟩ = some (.int .i64 2000) := cell_of_block ZxW6.out 1 (by simp)
  have ex2W6 : W6.cell? ⟨W5.heap.size + z11.bs.size + 1, 2, none⟩ = some (.int .i64 5000) := cell_of_block ZxW6.out 2 (by simp)
  have ex3W6 : W6.cell? ⟨W5.heap.size + z11.bs.size + 1, 3, none⟩ = some (.int .i64 5051) := cell_of_block ZxW6.out 3 (by simp)
  have lxW6 := (Array.getElem?_eq_some_iff.1 ZxW6.out).1
  refine wp_region_gw (by kernel_rfl) (by kernel_rfl) ?_
  repeat (go_big_quiet_step ((go_at_call 33; exact Calls.gw_of (one_any _ _))))
  refine wpQuiet_nil ?_
  rintro _ ⟨z9, rfl⟩
  go_wp2_with fail
  go_ret
  exact ⟨rfl, HBW6.out.gw z9⟩
end Go.Proofs.Ytohcopdfdmjhnaa.L1
