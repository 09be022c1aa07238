/- The law StrengthMixes returns true. No conditions beyond each theorem's own. -/
import Derived.Test.YtohcopdfdmjhnaaTd
import Derived.Test.YtohcopdfdmjhnaaTf
import Derived.Test.YtohcopdfdmjhnaaSt
set_option linter.unusedVariables false
set_option linter.unusedSimpArgs false
set_option linter.unusedSectionVars false
set_option linter.constructorNameAsVariable false
namespace Go.Proofs.Ytohcopdfdmjhnaa.L1
open Go.RowKit
open Go.Proofs.Ytohcopdfdmjhnaa

attribute [local go_sem] gw_cell gw_frozen gw_size

set_option maxRecDepth 100000 in
set_option maxHeartbeats 4000000 in
theorem mixes_any (a : Option Addr) (n c : Nat) (P : Nat → Prt) (s : Int) (p : Prt) (g : Int) (w : World) (hn : n ≤ 9223372036854775807) (hS : PartsAt w a n P) :
    Calls Try.prog 12 #[.slice a n c, .int .i64 s, .agg #[.int .i64 p.al, .int .i64 p.ah, .int .i64 p.sl, .int .i64 p.sh], .int .i64 g] w fun e w' => e = .returned (.bool true) ∧ Below w.heap.size w w' := by
  obtain ⟨W1, hW1⟩ : ∃ W1, w.alloc (.cells #[.int .i64 p.al, .int .i64 p.ah, .int .i64 p.sl, .int .i64 p.sh] 43) = W1 := ⟨_, rfl⟩
  have hBc : Below w.heap.size w W1 := by rw [← hW1]; exact below_alloc _ _
  have zc0 : W1.heap[w.heap.size]? = some (.cells #[.int .i64 p.al, .int .i64 p.ah, .int .i64 p.sl, .int .i64 p.sh] 43 (0, 0)) := by rw [← hW1]; exact alloc_at rfl
  have c00 : W1.cell? ⟨w.heap.size, 0, none⟩ = some (.int .i64 p.al) := cell_of_block zc0 0 (by simp)
  have c01 : W1.cell? ⟨w.heap.size, 1, none⟩ = some (.int .i64 p.ah) := cell_of_block zc0 1 (by simp)
  have c02 : W1.cell? ⟨w.heap.size, 2, none⟩ = some (.int .i64 p.sl) := cell_of_block zc0 2 (by simp)
  have c03 : W1.cell? ⟨w.heap.size, 3, none⟩ = some (.int .i64 p.sh) := cell_of_block zc0 3 (by simp)
  have lc0 := (Array.getElem?_eq_some_iff.1 zc0).1
  have Zc0 := Lib.hid zc0
  clear zc0
  have HBc := Lib.hid hBc; clear hBc
  have HWc := Lib.hid hW1; clear hW1
  have I1 := Lib.hid (hS.below HBc.out)
  have PA' := Lib.hid (fun W (hb : Below W1.heap.size W1 W) => Pure_any p.al p.ah p.sl p.sh W)
  have RA' := Lib.hid (fun W (hb : Below W1.heap.size W1 W) => rPure_any p.al p.ah p.sl p.sh W)
  have MX' := Lib.hid (fun W (hb : Below W1.heap.size W1 W) => Mix_any a n c P s W hn (I1.out.below hb))
  have RM' := Lib.hid (fun W (hb : Below W1.heap.size W1 W) => rMix_any a n c P s W hn (I1.out.below hb))
  have WA' := Lib.hid (fun W (hb : Below W1.heap.size W1 W) => Water_any p.al p.ah p.sl p.sh g W)
  have RW' := Lib.hid (fun W (hb : Below W1.heap.size W1 W) => rWater_any p.al p.ah p.sl p.sh g W)
  clear hS
  obtain ⟨a0, a1, a2, a3⟩ := p
  dsimp only at *
  generalize purL a0 a1 a2 a3 = pl at *
  generalize purH a0 a1 a2 a3 = ph at *
  generalize purE a0 a1 a2 a3 = pe at *
  generalize watN a0 a1 a2 a3 g = wn at *
  generalize watE a0 a1 a2 a3 g = we at *
  generalize mixV n P s = m at *
  generalize mixE n P s = me at *
  obtain ⟨m0, m1, m2, m3⟩ := m
  dsimp only at *
  go_enter Try.func12, Try.ntmps12
  go_upto_region 1 with (fail)
  rw [HWc.out]
  by_cases h : 70 < n
  · have hi : (70 : Int) < (n : Int) := by omega
    go_wp2_with fail
    refine (Calls.grown (alive_any _)).mono ?_
    rintro e w1 ⟨rfl, z1, rfl⟩
    go_wp2_with fail
    go_ret
    exact ⟨rfl, HBc.out.gw z1⟩
  have hi : ¬ (70 : Int) < (n : Int) := by omega
  go_wp2_with fail
  refine (Calls.grown (PA'.out _ (Below.refl _ W1))).mono ?_
  rintro e w1 ⟨rfl, z1, rfl⟩
  go_upto_region 4 with (fail)
  obtain ⟨W2, hW2⟩ : ∃ W2, ((gw W1 z1)).alloc (.cells #[.int .i64 pl, .int .i64 ph] 27) = W2 := ⟨_, rfl⟩
  have hbW2 : Below W1.heap.size W1 W2 := by rw [← hW2]; exact (below_gw W1 z1).alloc (by simp [gw_size]) _
  have ZtW2 := Lib.hid ((hbW2.block _ (Array.getElem?_eq_some_iff.1 Zc0.out).1).trans Zc0.out)
  have zxW2 : W2.heap[W1.heap.size + z1.bs.size]? = some (.cells #[.int .i64 pl, .int .i64 ph] 27 (0, 0)) := by rw [← hW2]; exact alloc_at (by simp [gw_size])
  have ZxW2 := Lib.hid zxW2; clear zxW2
  have HBW2 := Lib.hid (thru hbW2 HBc.out)
  have SBW2 := Lib.hid hbW2; clear hbW2
  have HWW2 := Lib.hid hW2; clear hW2
  rw [HWW2.out]
  clear c00 c01 c02 c03
  have S2 := Lib.hid SBW2.out
  have et0W2 : W2.cell? ⟨w.heap.size, 0, none⟩ = some (.int .i64 a0) := cell_of_block ZtW2.out 0 (by simp)
  have et1W2 : W2.cell? ⟨w.heap.size, 1, none⟩ = some (.int .i64 a1) := cell_of_block ZtW2.out 1 (by simp)
  have et2W2 : W2.cell? ⟨w.heap.size, 2, none⟩ = some (.int .i64 a2) := cell_of_block ZtW2.out 2 (by simp)
  have et3W2 : W2.cell? ⟨w.heap.size, 3, none⟩ = some (.int .i64 a3) := cell_of_block ZtW2.out 3 (by simp)
  have ltW2 := (Array.getElem?_eq_some_iff.1 ZtW2.out).1
  go_wp2_with fail
  refine (Calls.grown (RA'.out _ (S2.out))).mono ?_
  rintro e w1 ⟨rfl, z2, rfl⟩
  go_upto_region 5 with (fail)
  obtain ⟨W3, hW3⟩ : ∃ W3, ((gw W2 z2)).alloc (.cells #[.int .i64 pl, .int .i64 ph] 27) = W3 := ⟨_, rfl⟩
  have hbW3 : Below W2.heap.size W2 W3 := by rw [← hW3]; exact (below_gw W2 z2).alloc (by simp [gw_size]) _
  have ZtW3 := Lib.hid ((hbW3.block _ (Array.getElem?_eq_some_iff.1 ZtW2.out).1).trans ZtW2.out)
  have ZxW3 := Lib.hid ((hbW3.block _ (Array.getElem?_eq_some_iff.1 ZxW2.out).1).trans ZxW2.out)
  have zyW3 : W3.heap[W2.heap.size + z2.bs.size]? = some (.cells #[.int .i64 pl, .int .i64 ph] 27 (0, 0)) := by rw [← hW3]; exact alloc_at (by simp [gw_size])
  have ZyW3 := Lib.hid zyW3; clear zyW3
  have HBW3 := Lib.hid (thru hbW3 HBW2.out)
  have SBW3 := Lib.hid hbW3; clear hbW3
  have HWW3 := Lib.hid hW3; clear hW3
  rw [HWW3.out]
  clear et0W2 et1W2 et2W2 et3W2
  have S3 := Lib.hid (S2.out.trans (SBW3.out.mono S2.out.size))
  go_wp2_with fail
  refine (Calls.grown (MX'.out _ (S3.out))).mono ?_
  rintro e w1 ⟨rfl, z3, rfl⟩
  go_upto_region 6 with (fail)
  obtain ⟨W4, hW4⟩ : ∃ W4, ((gw W3 z3)).alloc (.cells #[.int .i64 m0, .int .i64 m1, .int .i64 m2, .int .i64 m3] 43) = W4 := ⟨_, rfl⟩
  have hbW4 : Below W3.heap.size W3 W4 := by rw [← hW4]; exact (below_gw W3 z3).alloc (by simp [gw_size]) _
  have ZtW4 := Lib.hid ((hbW4.block _ (Array.getElem?_eq_some_iff.1 ZtW3.out).1).trans ZtW3.out)
  have ZxW4 := Lib.hid ((hbW4.block _ (Array.getElem?_eq_some_iff.1 ZxW3.out).1).trans ZxW3.out)
  have ZyW4 := Lib.hid ((hbW4.block _ (Array.getElem?_eq_some_iff.1 ZyW3.out).1).trans ZyW3.out)
  have zuW4 : W4.heap[W3.heap.size + z3.bs.size]? = some (.cells #[.int .i64 m0, .int .i64 m1, .int .i64 m2, .int .i64 m3] 43 (0, 0)) := by rw [← hW4]; exact alloc_at (by simp [gw_size])
  have ZuW4 := Lib.hid zuW4; clear zuW4
  have HBW4 := Lib.hid (thru hbW4 HBW3.out)
  have SBW4 := Lib.hid hbW4; clear hbW4
  have HWW4 := Lib.hid hW4; clear hW4
  rw [HWW4.out]
  have S4 := Lib.hid (S3.out.trans (SBW4.out.mono S3.out.size))
  go_wp2_with fail
  refine (Calls.grown (RM'.out _ (S4.out))).mono ?_
  rintro e w1 ⟨rfl, z4, rfl⟩
  go_upto_region 7 with (fail)
  obtain ⟨W5, hW5⟩ : ∃ W5, ((gw W4 z4)).alloc (.cells #[.int .i64 m0, .int .i64 m1, .int .i64 m2, .int .i64 m3] 43) = W5 := ⟨_, rfl⟩
  have hbW5 : Below W4.heap.size W4 W5 := by rw [← hW5]; exact (below_gw W4 z4).alloc (by simp [gw_size]) _
  have ZtW5 := Lib.hid ((hbW5.block _ (Array.getElem?_eq_some_iff.1 ZtW4.out).1).trans ZtW4.out)
  have ZxW5 := Lib.hid ((hbW5.block _ (Array.getElem?_eq_some_iff.1 ZxW4.out).1).trans ZxW4.out)
  have ZyW5 := Lib.hid ((hbW5.block _ (Array.getElem?_eq_some_iff.1 ZyW4.out).1).trans ZyW4.out)
  have ZuW5 := Lib.hid ((hbW5.block _ (Array.getElem?_eq_some_iff.1 ZuW4.out).1).trans ZuW4.out)
  have zvW5 : W5.heap[W4.heap.size + z4.bs.size]? = some (.cells #[.int .i64 m0, .int .i64 m1, .int .i64 m2, .int .i64 m3] 43 (0, 0)) := by rw [← hW5]; exact alloc_at (by simp [gw_size])
  have ZvW5 := Lib.hid zvW5; clear zvW5
  have HBW5 := Lib.hid (thru hbW5 HBW4.out)
  have SBW5 := Lib.hid hbW5; clear hbW5
  have HWW5 := Lib.hid hW5; clear hW5
  rw [HWW5.out]
  have S5 := Lib.hid (S4.out.trans (SBW5.out.mono S4.out.size))
  have et0W5 : W5.cell? ⟨w.heap.size, 0, none⟩ = some (.int .i64 a0) := cell_of_block ZtW5.out 0 (by simp)
  have et1W5 : W5.cell? ⟨w.heap.size, 1, none⟩ = some (.int .i64 a1) := cell_of_block ZtW5.out 1 (by simp)
  have et2W5 : W5.cell? ⟨w.heap.size, 2, none⟩ = some (.int .i64 a2) := cell_of_block ZtW5.out 2 (by simp)
  have et3W5 : W5.cell? ⟨w.heap.size, 3, none⟩ = some (.int .i64 a3) := cell_of_block ZtW5.out 3 (by simp)
  have ltW5 := (Array.getElem?_eq_some_iff.1 ZtW5.out).1
  have ex0W5 : W5.cell? ⟨W1.heap.size + z1.bs.size, 0, none⟩ = some (.int .i64 pl) := cell_of_block ZxW5.out 0 (by simp)
  have ex1W5 : W5.cell? ⟨W1.heap.size + z1.bs.size, 1, none⟩ = some (.int .i64 ph) := cell_of_block ZxW5.out 1 (by simp)
  have lxW5 := (Array.getElem?_eq_some_iff.1 ZxW5.out).1
  have ey0W5 : W5.cell? ⟨W2.heap.size + z2.bs.size, 0, none⟩ = some (.int .i64 pl) := cell_of_block ZyW5.out 0 (by simp)
  have ey1W5 : W5.cell? ⟨W2.heap.size + z2.bs.size, 1, none⟩ = some (.int .i64 ph) := cell_of_block ZyW5.out 1 (by simp)
  have lyW5 := (Array.getElem?_eq_some_iff.1 ZyW5.out).1
  have eu0W5 : W5.cell? ⟨W3.heap.size + z3.bs.size, 0, none⟩ = some (.int .i64 m0) := cell_of_block ZuW5.out 0 (by simp)
  have eu1W5 : W5.cell? ⟨W3.heap.size + z3.bs.size, 1, none⟩ = some (.int .i64 m1) := cell_of_block ZuW5.out 1 (by simp)
  have eu2W5 : W5.cell? ⟨W3.heap.size + z3.bs.size, 2, none⟩ = some (.int .i64 m2) := cell_of_block ZuW5.out 2 (by simp)
  have eu3W5 : W5.cell? ⟨W3.heap.size + z3.bs.size, 3, none⟩ = some (.int .i64 m3) := cell_of_block ZuW5.out 3 (by simp)
  have luW5 := (Array.getElem?_eq_some_iff.1 ZuW5.out).1
  have ev0W5 : W5.cell? ⟨W4.heap.size + z4.bs.size, 0, none⟩ = some (.int .i64 m0) := cell_of_block ZvW5.out 0 (by simp)
  have ev1W5 : W5.cell? ⟨W4.heap.size + z4.bs.size, 1, none⟩ = some (.int .i64 m1) := cell_of_block ZvW5.out 1 (by simp)
  have ev2W5 : W5.cell? ⟨W4.heap.size + z4.bs.size, 2, none⟩ = some (.int .i64 m2) := cell_of_block ZvW5.out 2 (by simp)
  have ev3W5 : W5.cell? ⟨W4.heap.size + z4.bs.size, 3, none⟩ = some (.int .i64 m3) := cell_of_block ZvW5.out 3 (by simp)
  have lvW5 := (Array.getElem?_eq_some_iff.1 ZvW5.out).1
  go_wp2_with fail
  refine (Calls.grown (WA'.out _ (S5.out))).mono ?_
  rintro e w1 ⟨rfl, z5, rfl⟩
  go_wp2_with fail
  refine (Calls.gw_of (RW'.out _ (S5.out.trans ((below_gw W5 z5).mono S5.out.size)))).mono ?_
  rintro e w1 ⟨rfl, z6, rfl⟩
  go_wp2_with fail
  refine (Calls.gw_of (alive_any _)).mono ?_
  rintro e w1 ⟨rfl, z7, rfl⟩
  go_wp2_with fail
  go_ret
  exact ⟨rfl, HBW5.out.gw z7⟩
end Go.Proofs.Ytohcopdfdmjhnaa.L1
