/- Contract of awake. No conditions beyond each theorem's own. -/
import Derived.Test.YtdcpgjepgajioaaCd
set_option linter.unusedVariables false
set_option linter.unusedSimpArgs false
set_option linter.unusedSectionVars false
set_option linter.constructorNameAsVariable false
namespace Go.Proofs.Ytdcpgjepgajioaa
open Go.RowKit

attribute [local go_sem] gw_cell gw_frozen gw_size

theorem left_samp {b : Nat} {w w' : World} {e : Ending} (h : LeftEnd (sampO b) (sampY b) 3 samp1 1 w e w') : ∃ a c, e = .returned (.tuple #[.slice a 3 c, .int .i64 3, .int .i64 0]) ∧ RowsOf w' a 3 ((sampO b).leftRow (sampY b) 1 samp1) ∧ Below w.heap.size w w' := by
  obtain ⟨a, c, h1, h2, h3⟩ := h
  rw [samp_leftE, samp_leftY] at h1
  rw [samp_leftE] at h2
  exact ⟨a, c, h1, h2, h3⟩
theorem keeps_samp {b : Nat} {w w' : World} {e : Ending} (h : KeepsEnd (sampO b) (sampY b) 3 samp0 w e w') : e = .returned (.tuple #[.int .i64 1, .int .i64 2, .int .i64 10]) ∧ Below w.heap.size w w' := by
  obtain ⟨h1, h2⟩ := h
  rw [samp_keepsP, samp_keepsY, samp_keepsE] at h1
  exact ⟨h1, h2⟩
def fst1 (i : Nat) : Int := (([1, 0, 0].getD i 0 : Nat) : Int)
def few1 (i : Nat) : Int := (([0, 1, 0].getD i 0 : Nat) : Int)
def lit2 (i : Nat) : Int := [0, 1, 0].getD i 0
theorem ints_fst : intsB 3 3 fst1 samp1 = true := by kernel_rfl
theorem ints_few : intsB 3 3 few1 lit2 = true := by kernel_rfl

set_option maxRecDepth 100000 in
set_option maxHeartbeats 4000000 in
theorem awake_any (w : World) : Calls Try.prog 10 #[] w fun e w' => e = .returned (.bool true) ∧ Below w.heap.size w w' := by
  go_enter Try.func10, Try.ntmps10
  go_wp2_with fail
  refine (sample_any w).mono ?_
  rintro e W1 ⟨b, rfl, hO, hY, hb⟩
  have HB1 := Lib.hid hb; clear hb
  have F1 := samp_row2 b; have F2 := samp_row4 b
  have LT := fun W (a : Option Addr) (c : Nat) (hb : Below W1.heap.size W1 W) (hI : IntsAt W a 3 samp1) => (Left_any (sampO b) (sampY b) a 3 c samp1 1 W (hO.below hb) (sampO_fits b) (hY.below hb) (sampY_fits b) hI (by decide)).mono (fun e w9 h => left_samp h)
  have KP := fun W (a : Option Addr) (c : Nat) (hb : Below W1.heap.size W1 W) (hI : IntsAt W a 3 samp0) => (Keeps_any (sampO b) (sampY b) a 3 c samp0 W (hO.below hb) (sampO_fits b) (hY.below hb) (sampY_fits b) hI (by decide)).mono (fun e w9 h => keeps_samp h)
  have CH := fun W (hb : Below W1.heap.size W1 W) => Cheapest_any (sampO b) (sampY b) W (hO.below hb) (sampO_fits b) (hY.below hb) (sampY_fits b)
  have FW := fun W (hb : Below W1.heap.size W1 W) => Fewest_any (sampO b) (sampY b) W (hO.below hb) (sampO_fits b) (hY.below hb) (sampY_fits b)
  rw [(samp_ch b).1, (samp_ch b).2.1, (samp_ch b).2.2] at CH
  rw [(samp_fw b).1, (samp_fw b).2.1] at FW
  obtain ⟨o, ho⟩ : ∃ o, sampO b = o := ⟨_, rfl⟩
  obtain ⟨y, hy⟩ : ∃ y, sampY b = y := ⟨_, rfl⟩
  rw [ho, hy] at F1 F2 LT KP CH FW
  rw [ho, hy]
  clear ho hy hO hY
  unfold Otl.val Lyg.val at LT KP CH FW
  unfold Otl.val Lyg.val
  have LT := Lib.hid LT; have KP := Lib.hid KP; have CH := Lib.hid CH; have FW := Lib.hid FW; have F1 := Lib.hid F1; have F2 := Lib.hid F2
  obtain ⟨W2, hW2⟩ : ∃ W2, ((W1).alloc (.cells #[.slice o.aS o.nS o.cS, .int .i64 o.kl, .int .i64 o.kh, .slice o.aA o.nA o.cA, .slice o.aP o.nP o.cP] 27)).alloc (.cells #[.slice y.aR y.nR y.cR, .slice y.aM y.nM y.cM, .int .i64 y.lot, .int .i64 y.room] 29) = W2 := ⟨_, rfl⟩
  have hBc : Below W1.heap.size W1 W2 := by rw [← hW2]; exact (below_alloc _ _).alloc (by simp) _
  have zc0 : W2.heap[W1.heap.size]? = some (.cells #[.slice o.aS o.nS o.cS, .int .i64 o.kl, .int .i64 o.kh, .slice o.aA o.nA o.cA, .slice o.aP o.nP o.cP] 27 (0, 0)) := by rw [← hW2]; exact alloc_keep (alloc_at rfl)
  have zc1 : W2.heap[W1.heap.size + 1]? = some (.cells #[.slice y.aR y.nR y.cR, .slice y.aM y.nM y.cM, .int .i64 y.lot, .int .i64 y.room] 29 (0, 0)) := by rw [← hW2]; exact alloc_at (by simp)
  have c00 : W2.cell? ⟨W1.heap.size, 0, none⟩ = some (.slice o.aS o.nS o.cS) := cell_of_block zc0 0 (by simp)
  have c01 : W2.cell? ⟨W1.heap.size, 1, none⟩ = some (.int .i64 o.kl) := cell_of_block zc0 1 (by simp)
  have c02 : W2.cell? ⟨W1.heap.size, 2, none⟩ = some (.int .i64 o.kh) := cell_of_block zc0 2 (by simp)
  have c03 : W2.cell? ⟨W1.heap.size, 3, none⟩ = some (.slice o.aA o.nA o.cA) := cell_of_block zc0 3 (by simp)
  have c04 : W2.cell? ⟨W1.heap.size, 4, none⟩ = some (.slice o.aP o.nP o.cP) := cell_of_block zc0 4 (by simp)
  have c10 : W2.cell? ⟨W1.heap.size + 1, 0, none⟩ = some (.slice y.aR y.nR y.cR) := cell_of_block zc1 0 (by simp)
  have c11 : W2.cell? ⟨W1.heap.size + 1, 1, none⟩ = some (.slice y.aM y.nM y.cM) := cell_of_block zc1 1 (by simp)
  have c12 : W2.cell? ⟨W1.heap.size + 1, 2, none⟩ = some (.int .i64 y.lot) := cell_of_block zc1 2 (by simp)
  have c13 : W2.cell? ⟨W1.heap.size + 1, 3, none⟩ = some (.int .i64 y.room) := cell_of_block zc1 3 (by simp)
  have lc0 := (Array.getElem?_eq_some_iff.1 zc0).1
  have lc1 := (Array.getElem?_eq_some_iff.1 zc1).1
  have Zc0 := Lib.hid zc0
  have Zc1 := Lib.hid zc1
  clear zc0 zc1
  have HBc := Lib.hid hBc; clear hBc
  have HWc := Lib.hid hW2; clear hW2
  obtain ⟨W3, hW3⟩ : ∃ W3, (W2).alloc (.cells #[.int .i64 1, .int .i64 0, .int .i64 0] 3) = W3 := ⟨_, rfl⟩
  have hBd : Below W2.heap.size W2 W3 := by rw [← hW3]; exact below_alloc _ _
  have zd0 : W3.heap[W2.heap.size]? = some (.cells #[.int .i64 1, .int .i64 0, .int .i64 0] 3 (0, 0)) := by rw [← hW3]; exact alloc_at rfl
  have d00 : W3.cell? ⟨W2.heap.size, 0, none⟩ = some (.int .i64 1) := cell_of_block zd0 0 (by simp)
  have d01 : W3.cell? ⟨W2.heap.size, 1, none⟩ = some (.int .i64 0) := cell_of_block zd0 1 (by simp)
  have d02 : W3.cell? ⟨W2.heap.size, 2, none⟩ = some (.int .i64 0) := cell_of_block zd0 2 (by simp)
  have ld0 := (Array.getElem?_eq_some_iff.1 zd0).1
  have Zd0 := Lib.hid zd0
  clear zd0
  have HBd := Lib.hid hBd; clear hBd
  have HWd := Lib.hid hW3; clear hW3
  have I3 := ints_lit (n := 3) samp1 Zd0.out rfl (fun i hi => by match i, hi with | 0, _ => rfl | 1, _ => rfl | 2, _ => rfl)
  have e2 : W2.heap.size = W1.heap.size + 1 + 1 := by rw [← HWc.out]; simp
  rw [e2] at I3
  have I3 := Lib.hid I3
  clear e2
  go_wp2_with fail
  rw [HWc.out, HWd.out]
  refine (LT.out W3 _ _ (HBc.out.trans (HBd.out.mono HBc.out.size)) I3.out).mono ?_
  rintro e w4 ⟨aL, cL, rfl, hr, hb⟩
  have HR := Lib.hid hr
  have B4 := Lib.hid (HBd.out.trans (hb.mono HBd.out.size))
  clear hr hb I3 d00 d01 d02 ld0 Zd0 HWd HBd
  clear c00 c01 c02 c03 c04 c10 c11 c12 c13
  obtain ⟨W5, hW5⟩ : ∃ W5, (w4).alloc (.cells #[.int .i64 0, .int .i64 0, .int .i64 0] 3) = W5 := ⟨_, rfl⟩
  have hBe : Below w4.heap.size w4 W5 := by rw [← hW5]; exact below_alloc _ _
  have ze0 : W5.heap[w4.heap.size]? = some (.cells #[.int .i64 0, .int .i64 0, .int .i64 0] 3 (0, 0)) := by rw [← hW5]; exact alloc_at rfl
  have e00 : W5.cell? ⟨w4.heap.size, 0, none⟩ = some (.int .i64 0) := cell_of_block ze0 0 (by simp)
  have e01 : W5.cell? ⟨w4.heap.size, 1, none⟩ = some (.int .i64 0) := cell_of_block ze0 1 (by simp)
  have e02 : W5.cell? ⟨w4.heap.size, 2, none⟩ = some (.int .i64 0) := cell_of_block ze0 2 (by simp)
  have le0 := (Array.getElem?_eq_some_iff.1 ze0).1
  have Ze0 := Lib.hid ze0
  clear ze0
  have HBe := Lib.hid hBe; clear hBe
  have HWe := Lib.hid hW5; clear hW5
  have B5 := Lib.hid (B4.out.trans (HBe.out.mono B4.out.size))
  have b0 := (B4.out.block _ lc0).trans Zc0.out
  have b1 := (B4.out.block _ lc1).trans Zc1.out
  have p00 : w4.cell? ⟨W1.heap.size, 0, none⟩ = some (.slice o.aS o.nS o.cS) := cell_of_block b0 0 (by simp)
  have p01 : w4.cell? ⟨W1.heap.size, 1, none⟩ = some (.int .i64 o.kl) := cell_of_block b0 1 (by simp)
  have p02 : w4.cell? ⟨W1.heap.size, 2, none⟩ = some (.int .i64 o.kh) := cell_of_block b0 2 (by simp)
  have p03 : w4.cell? ⟨W1.heap.size, 3, none⟩ = some (.slice o.aA o.nA o.cA) := cell_of_block b0 3 (by simp)
  have p04 : w4.cell? ⟨W1.heap.size, 4, none⟩ = some (.slice o.aP o.nP o.cP) := cell_of_block b0 4 (by simp)
  have p10 : w4.cell? ⟨W1.heap.size + 1, 0, none⟩ = some (.slice y.aR y.nR y.cR) := cell_of_block b1 0 (by simp)
  have p11 : w4.cell? ⟨W1.heap.size + 1, 1, none⟩ = some (.slice y.aM y.nM y.cM) := cell_of_block b1 1 (by simp)
  have p12 : w4.cell? ⟨W1.heap.size + 1, 2, none⟩ = some (.int .i64 y.lot) := cell_of_block b1 2 (by simp)
  have p13 : w4.cell? ⟨W1.heap.size + 1, 3, none⟩ = some (.int .i64 y.room) := cell_of_block b1 3 (by simp)
  have lp0 := (Array.getElem?_eq_some_iff.1 b0).1
  have lp1 := (Array.getElem?_eq_some_iff.1 b1).1
  clear b0 b1
  have I5 := Lib.hid (ints_lit (n := 3) samp0 Ze0.out rfl (fun i hi => by match i, hi with | 0, _ => rfl | 1, _ => rfl | 2, _ => rfl))
  go_wp2_with fail
  rw [HWe.out]
  refine (KP.out W5 _ _ (HBc.out.trans (B5.out.mono HBc.out.size)) I5.out).mono ?_
  rintro e w6 ⟨rfl, hb⟩
  have X6 := Lib.hid (HBe.out.trans (hb.mono HBe.out.size))
  have B6 := Lib.hid (B4.out.trans (X6.out.mono B4.out.size))
  have HR := Lib.hid (HR.out.below X6.out)
  clear hb I5 e00 e01 e02 le0 Ze0 HWe HBe X6 B5
  clear p00 p01 p02 p03 p04 p10 p11 p12 p13 lp0 lp1
  have b0 := (B6.out.block _ lc0).trans Zc0.out
  have b1 := (B6.out.block _ lc1).trans Zc1.out
  have q00 : w6.cell? ⟨W1.heap.size, 0, none⟩ = some (.slice o.aS o.nS o.cS) := cell_of_block b0 0 (by simp)
  have q01 : w6.cell? ⟨W1.heap.size, 1, none⟩ = some (.int .i64 o.kl) := cell_of_block b0 1 (by simp)
  have q02 : w6.cell? ⟨W1.heap.size, 2, none⟩ = some (.int .i64 o.kh) := cell_of_block b0 2 (by simp)
  have q03 : w6.cell? ⟨W1.heap.size, 3, none⟩ = some (.slice o.aA o.nA o.cA) := cell_of_block b0 3 (by simp)
  have q04 : w6.cell? ⟨W1.heap.size, 4, none⟩ = some (.slice o.aP o.nP o.cP) := cell_of_block b0 4 (by simp)
  have q10 : w6.cell? ⟨W1.heap.size + 1, 0, none⟩ = some (.slice y.aR y.nR y.cR) := cell_of_block b1 0 (by simp)
  have q11 : w6.cell? ⟨W1.heap.size + 1, 1, none⟩ = some (.slice y.aM y.nM y.cM) := cell_of_block b1 1 (by simp)
  have q12 : w6.cell? ⟨W1.heap.size + 1, 2, none⟩ = some (.int .i64 y.lot) := cell_of_block b1 2 (by simp)
  have q13 : w6.cell? ⟨W1.heap.size + 1, 3, none⟩ = some (.int .i64 y.room) := cell_of_block b1 3 (by simp)
  have lq0 := (Array.getElem?_eq_some_iff.1 b0).1
  have lq1 := (Array.getElem?_eq_some_iff.1 b1).1
  clear b0 b1
  go_wp2_with fail
  refine (CH.out w6 (HBc.out.trans (B6.out.mono HBc.out.size))).mono ?_
  rintro e w7 ⟨a7, c7, rfl, hbest, hb⟩
  have I7 := Lib.hid (show IntsAt w7 a7 3 fst1 from hbest.ints)
  have HR := Lib.hid (HR.out.below hb)
  have B7 := Lib.hid (B6.out.trans (hb.mono B6.out.size))
  clear hb hbest
  clear q00 q01 q02 q03 q04 q10 q11 q12 q13 lq0 lq1
  have b0 := (B7.out.block _ lc0).trans Zc0.out
  have b1 := (B7.out.block _ lc1).trans Zc1.out
  have r00 : w7.cell? ⟨W1.heap.size, 0, none⟩ = some (.slice o.aS o.nS o.cS) := cell_of_block b0 0 (by simp)
  have r01 : w7.cell? ⟨W1.heap.size, 1, none⟩ = some (.int .i64 o.kl) := cell_of_block b0 1 (by simp)
  have r02 : w7.cell? ⟨W1.heap.size, 2, none⟩ = some (.int .i64 o.kh) := cell_of_block b0 2 (by simp)
  have r03 : w7.cell? ⟨W1.heap.size, 3, none⟩ = some (.slice o.aA o.nA o.cA) := cell_of_block b0 3 (by simp)
  have r04 : w7.cell? ⟨W1.heap.size, 4, none⟩ = some (.slice o.aP o.nP o.cP) := cell_of_block b0 4 (by simp)
  have r10 : w7.cell? ⟨W1.heap.size + 1, 0, none⟩ = some (.slice y.aR y.nR y.cR) := cell_of_block b1 0 (by simp)
  have r11 : w7.cell? ⟨W1.heap.size + 1, 1, none⟩ = some (.slice y.aM y.nM y.cM) := cell_of_block b1 1 (by simp)
  have r12 : w7.cell? ⟨W1.heap.size + 1, 2, none⟩ = some (.int .i64 y.lot) := cell_of_block b1 2 (by simp)
  have r13 : w7.cell? ⟨W1.heap.size + 1, 3, none⟩ = some (.int .i64 y.room) := cell_of_block b1 3 (by simp)
  have lr0 := (Array.getElem?_eq_some_iff.1 b0).1
  have lr1 := (Array.getElem?_eq_some_iff.1 b1).1
  clear b0 b1
  go_wp2_with fail
  refine (FW.out w7 (HBc.out.trans (B7.out.mono HBc.out.size))).mono ?_
  rintro e w8 ⟨a8, c8, rfl, hbest, hb⟩
  have I8 := Lib.hid (show IntsAt w8 a8 3 few1 from hbest.ints)
  have HR := Lib.hid (HR.out.below hb)
  have I7 := Lib.hid (I7.out.below hb)
  have B8 := Lib.hid (B7.out.trans (hb.mono B7.out.size))
  clear hb hbest
  clear r00 r01 r02 r03 r04 r10 r11 r12 r13 lr0 lr1
  obtain ⟨rA, rC, h1, h2⟩ := HR.out
  rcases h1 with h0 | ⟨bR, oR, eR, lR, hc⟩
  · omega
  rcases h2 2 (by omega) with h0 | ⟨bS, oS, eS, lS, hd⟩
  · omega
  have x1 := hc 2 (by omega)
  have x2 := hd 2 (by omega)
  have x3 := hd 4 (by omega)
  dsimp only at x1 x2 x3
  rw [eS] at x1
  rw [F1.out] at x2
  rw [F2.out] at x3
  clear hc hd h2 HR eS
  subst eR
  obtain ⟨W9, hW9⟩ : ∃ W9, (w8).alloc (.cells #[.int .i64 1, .int .i64 0, .int .i64 0] 3) = W9 := ⟨_, rfl⟩
  have hBf : Below w8.heap.size w8 W9 := by rw [← hW9]; exact below_alloc _ _
  have zf0 : W9.heap[w8.heap.size]? = some (.cells #[.int .i64 1, .int .i64 0, .int .i64 0] 3 (0, 0)) := by rw [← hW9]; exact alloc_at rfl
  have f00 : W9.cell? ⟨w8.heap.size, 0, none⟩ = some (.int .i64 1) := cell_of_block zf0 0 (by simp)
  have f01 : W9.cell? ⟨w8.heap.size, 1, none⟩ = some (.int .i64 0) := cell_of_block zf0 1 (by simp)
  have f02 : W9.cell? ⟨w8.heap.size, 2, none⟩ = some (.int .i64 0) := cell_of_block zf0 2 (by simp)
  have lf0 := (Array.getElem?_eq_some_iff.1 zf0).1
  have Zf0 := Lib.hid zf0
  clear zf0
  have HBf := Lib.hid hBf; clear hBf
  have HWf := Lib.hid hW9; clear hW9
  have J7 := Lib.hid (I7.out.below HBf.out)
  have J9 := Lib.hid (ints_lit (n := 3) samp1 Zf0.out rfl (fun i hi => by match i, hi with | 0, _ => rfl | 1, _ => rfl | 2, _ => rfl))
  have RI := rints_any a7 (some ⟨w8.heap.size, 0, none⟩) 3 3 c7 3 fst1 samp1 W9 J7.out J9.out (by decide) (by decide)
  rw [ints_fst] at RI
  have RI := Lib.hid RI
  go_wp2_with fail
  rw [HWf.out]
  refine RI.out.mono ?_
  rintro e w10 ⟨rfl, hb⟩
  have B10 := Lib.hid (HBf.out.trans (hb.mono HBf.out.size))
  clear hb f00 f01 f02 lf0 Zf0 HWf HBf RI J7 J9
  obtain ⟨W11, hW11⟩ : ∃ W11, (w10).alloc (.cells #[.int .i64 0, .int .i64 1, .int .i64 0] 3) = W11 := ⟨_, rfl⟩
  have hBg : Below w10.heap.size w10 W11 := by rw [← hW11]; exact below_alloc _ _
  have zg0 : W11.heap[w10.heap.size]? = some (.cells #[.int .i64 0, .int .i64 1, .int .i64 0] 3 (0, 0)) := by rw [← hW11]; exact alloc_at rfl
  have g00 : W11.cell? ⟨w10.heap.size, 0, none⟩ = some (.int .i64 0) := cell_of_block zg0 0 (by simp)
  have g01 : W11.cell? ⟨w10.heap.size, 1, none⟩ = some (.int .i64 1) := cell_of_block zg0 1 (by simp)
  have g02 : W11.cell? ⟨w10.heap.size, 2, none⟩ = some (.int .i64 0) := cell_of_block zg0 2 (by simp)
  have lg0 := (Array.getElem?_eq_some_iff.1 zg0).1
  have Zg0 := Lib.hid zg0
  clear zg0
  have HBg := Lib.hid hBg; clear hBg
  have HWg := Lib.hid hW11; clear hW11
  have X11 := Lib.hid (B10.out.trans (HBg.out.mono B10.out.size))
  have J8 := Lib.hid (I8.out.below X11.out)
  have J9 := Lib.hid (ints_lit (n := 3) lit2 Zg0.out rfl (fun i hi => by match i, hi with | 0, _ => rfl | 1, _ => rfl | 2, _ => rfl))
  have RI := rints_any a8 (some ⟨w10.heap.size, 0, none⟩) 3 3 c8 3 few1 lit2 W11 J8.out J9.out (by decide) (by decide)
  rw [ints_few] at RI
  have RI := Lib.hid RI
  go_wp2_with fail
  rw [HWg.out]
  refine RI.out.mono ?_
  rintro e w12 ⟨rfl, hb⟩
  have B12 := Lib.hid (X11.out.trans (hb.mono X11.out.size))
  clear hb
  go_wp2_with fail
  go_ret
  exact ⟨rfl, HB1.out.trans (((HBc.out.trans (B8.out.mono HBc.out.size)).trans (B12.out.mono (by have := HBc.out.size; have := B8.out.size; omega))).mono HB1.out.size)⟩
end Go.Proofs.Ytdcpgjepgajioaa
