/- Contract of TopField where malt, yeast and curve are valid. No conditions beyond each theorem's own. -/
import Derived.Test.YtfefmgadfklgmaaQb
set_option linter.unusedVariables false
set_option linter.unusedSimpArgs false
set_option linter.unusedSectionVars false
set_option linter.constructorNameAsVariable false
namespace Go.Proofs.Ytfefmgadfklgmaa
open Go.RowKit

attribute [local go_sem] gw_cell gw_frozen gw_size
theorem run_minF {Q : Program} (w : World) (ts : Array TypeId) (t : TypeId) (k k' : IntKind) (x y : Int) : (Builtin.min_ ts t #[.int k x, .int k' y]).run Q w = .ok (.int k (min x y)) w := by rw [run_minZ, minZ_eq]
attribute [local go_sem ↓] run_minF
theorem far_set {W : World} {b B k : Nat} {v : Value} (h : B ≠ b) : (W.setCell ⟨b, k, none⟩ v).heap[B]? = W.heap[B]? := Below.heap_setCell W ⟨b, k, none⟩ v B h
theorem sets13_far {W : World} {b B : Nat} (h : B ≠ b) (x0 x1 x2 x3 x4 x5 x6 x7 x8 x9 x10 x11 x12 : Int) : ((((((((((((((W).setCell ⟨b, 0, none⟩ (.int .i64 x0)).setCell ⟨b, 1, none⟩ (.int .i64 x1)).setCell ⟨b, 2, none⟩ (.int .i64 x2)).setCell ⟨b, 3, none⟩ (.int .i64 x3)).setCell ⟨b, 4, none⟩ (.int .i64 x4)).setCell ⟨b, 5, none⟩ (.int .i64 x5)).setCell ⟨b, 6, none⟩ (.int .i64 x6)).setCell ⟨b, 7, none⟩ (.int .i64 x7)).setCell ⟨b, 8, none⟩ (.int .i64 x8)).setCell ⟨b, 9, none⟩ (.int .i64 x9)).setCell ⟨b, 10, none⟩ (.int .i64 x10)).setCell ⟨b, 11, none⟩ (.int .i64 x11)).setCell ⟨b, 12, none⟩ (.int .i64 x12)).heap[B]? = W.heap[B]? := by
  iterate 13 (rw [far_set h])
theorem sets13_block {W : World} {b : Nat} {a0 a1 a2 a3 a4 a5 a6 a7 a8 a9 a10 a11 a12 : Value} {t : TypeId} (h : W.heap[b]? = some (.cells #[a0, a1, a2, a3, a4, a5, a6, a7, a8, a9, a10, a11, a12] t (0, 0))) (x0 x1 x2 x3 x4 x5 x6 x7 x8 x9 x10 x11 x12 : Int) : ((((((((((((((W).setCell ⟨b, 0, none⟩ (.int .i64 x0)).setCell ⟨b, 1, none⟩ (.int .i64 x1)).setCell ⟨b, 2, none⟩ (.int .i64 x2)).setCell ⟨b, 3, none⟩ (.int .i64 x3)).setCell ⟨b, 4, none⟩ (.int .i64 x4)).setCell ⟨b, 5, none⟩ (.int .i64 x5)).setCell ⟨b, 6, none⟩ (.int .i64 x6)).setCell ⟨b, 7, none⟩ (.int .i64 x7)).setCell ⟨b, 8, none⟩ (.int .i64 x8)).setCell ⟨b, 9, none⟩ (.int .i64 x9)).setCell ⟨b, 10, none⟩ (.int .i64 x10)).setCell ⟨b, 11, none⟩ (.int .i64 x11)).setCell ⟨b, 12, none⟩ (.int .i64 x12)).heap[b]? = some (.cells #[.int .i64 x0, .int .i64 x1, .int .i64 x2, .int .i64 x3, .int .i64 x4, .int .i64 x5, .int .i64 x6, .int .i64 x7, .int .i64 x8, .int .i64 x9, .int .i64 x10, .int .i64 x11, .int .i64 x12] t (0, 0)) := by
  have hh := set_all [.int .i64 x0, .int .i64 x1, .int .i64 x2, .int .i64 x3, .int .i64 x4, .int .i64 x5, .int .i64 x6, .int .i64 x7, .int .i64 x8, .int .i64 x9, .int .i64 x10, .int .i64 x11, .int .i64 x12] h rfl
  simpa [setAll] using hh
theorem sets13_below {w0 W : World} {n b : Nat} (h : Below n w0 W) (hn : n ≤ b) (x0 x1 x2 x3 x4 x5 x6 x7 x8 x9 x10 x11 x12 : Int) : Below n w0 ((((((((((((((W).setCell ⟨b, 0, none⟩ (.int .i64 x0)).setCell ⟨b, 1, none⟩ (.int .i64 x1)).setCell ⟨b, 2, none⟩ (.int .i64 x2)).setCell ⟨b, 3, none⟩ (.int .i64 x3)).setCell ⟨b, 4, none⟩ (.int .i64 x4)).setCell ⟨b, 5, none⟩ (.int .i64 x5)).setCell ⟨b, 6, none⟩ (.int .i64 x6)).setCell ⟨b, 7, none⟩ (.int .i64 x7)).setCell ⟨b, 8, none⟩ (.int .i64 x8)).setCell ⟨b, 9, none⟩ (.int .i64 x9)).setCell ⟨b, 10, none⟩ (.int .i64 x10)).setCell ⟨b, 11, none⟩ (.int .i64 x11)).setCell ⟨b, 12, none⟩ (.int .i64 x12)) := by
  iterate 12 (refine Below.setCell (p := ⟨b, _, none⟩) ?_ hn _)
  exact h.setCell (p := ⟨b, 0, none⟩) hn _

set_option maxRecDepth 100000 in
set_option maxHeartbeats 32000000 in
theorem field_main (dl dh wl wh pl ph : Int) (aS : Option Addr) (nS cS : Nat) (K A Bs : Nat → Int) (m : Msh) (y : Yst) (tl th : Int) (aC : Option Addr) (nC cC : Nat) (FF GG : Nat → Int) (c : L4.Crv) (aL aV : Option Addr) (mV cL cV : Nat) (aM : Option Addr) (k cM : Nat) (M : Nat → Int) (by_ : Int) (w : World) (hS : L2.StepsAt w aS nS K A Bs) (hY : y.In w) (hYf : y.Fits) (hC : SpansAt w aC nC FF GG) (hL : IntsAt w aL c.n c.L) (hV : SpansAt w aV mV c.A c.B) (hM : IntsAt w aM k M) (h1 : nS ≤ 30) (h2 : nC ≤ 30) (h3 : k ≤ 20) (h4 : c.n ≤ 40) (h5 : mV ≤ 40) (h : fieldB dl dh wl wh pl ph y c mV = true) (hby : 0 ≤ by_ ∧ by_ ≤ 4294967295) :
    Calls Try.prog 3 #[.agg #[.int .i64 dl, .int .i64 dh, .int .i64 wl, .int .i64 wh, .int .i64 pl, .int .i64 ph, .slice aS nS cS, .int .i64 m.g, .int .i64 m.w, .int .i64 m.xl, .int .i64 m.xh, .int .i64 m.hl, .int .i64 m.hh, .slice y.aT y.nT y.cT, .slice y.aR y.nR y.cR, .int .i64 y.sl, .int .i64 y.sh, .int .i64 y.gl, .int .i64 y.gh, .int .i64 y.hl, .int .i64 y.hh, .int .i64 tl, .int .i64 th, .slice aC nC cC, .slice aL c.n cL, .slice aV mV cV, .slice aM k cM], .int .u32 by_] w fun e w' => e = .returned (.bool true) ∧ Below w.heap.size w w' := by
  obtain ⟨W1, hW1⟩ : ∃ W1, w.alloc (.cells #[.int .i64 dl, .int .i64 dh, .int .i64 wl, .int .i64 wh, .int .i64 pl, .int .i64 ph, .slice aS nS cS, .int .i64 m.g, .int .i64 m.w, .int .i64 m.xl, .int .i64 m.xh, .int .i64 m.hl, .int .i64 m.hh, .slice y.aT y.nT y.cT, .slice y.aR y.nR y.cR, .int .i64 y.sl, .int .i64 y.sh, .int .i64 y.gl, .int .i64 y.gh, .int .i64 y.hl, .int .i64 y.hh, .int .i64 tl, .int .i64 th, .slice aC nC cC, .slice aL c.n cL, .slice aV mV cV, .slice aM k cM] 36) = W1 := ⟨_, rfl⟩
  have hBc : Below w.heap.size w W1 := by rw [← hW1]; exact below_alloc _ _
  have zc0 : W1.heap[w.heap.size]? = some (.cells #[.int .i64 dl, .int .i64 dh, .int .i64 wl, .int .i64 wh, .int .i64 pl, .int .i64 ph, .slice aS nS cS, .int .i64 m.g, .int .i64 m.w, .int .i64 m.xl, .int .i64 m.xh, .int .i64 m.hl, .int .i64 m.hh, .slice y.aT y.nT y.cT, .slice y.aR y.nR y.cR, .int .i64 y.sl, .int .i64 y.sh, .int .i64 y.gl, .int .i64 y.gh, .int .i64 y.hl, .int .i64 y.hh, .int .i64 tl, .int .i64 th, .slice aC nC cC, .slice aL c.n cL, .slice aV mV cV, .slice aM k cM] 36 (0, 0)) := by rw [← hW1]; exact alloc_at rfl
  have c00 : W1.cell? ⟨w.heap.size, 0, none⟩ = some (.int .i64 dl) := cell_of_block zc0 0 (by simp)
  have c01 : W1.cell? ⟨w.heap.size, 1, none⟩ = some (.int .i64 dh) := cell_of_block zc0 1 (by simp)
  have c02 : W1.cell? ⟨w.heap.size, 2, none⟩ = some (.int .i64 wl) := cell_of_block zc0 2 (by simp)
  have c03 : W1.cell? ⟨w.heap.size, 3, none⟩ = some (.int .i64 wh) := cell_of_block zc0 3 (by simp)
  have c04 : W1.cell? ⟨w.heap.size, 4, none⟩ = some (.int .i64 pl) := cell_of_block zc0 4 (by simp)
  have c05 : W1.cell? ⟨w.heap.size, 5, none⟩ = some (.int .i64 ph) := cell_of_block zc0 5 (by simp)
  have c06 : W1.cell? ⟨w.heap.size, 6, none⟩ = some (.slice aS nS cS) := cell_of_block zc0 6 (by simp)
  have c07 : W1.cell? ⟨w.heap.size, 7, none⟩ = some (.int .i64 m.g) := cell_of_block zc0 7 (by simp)
  have c08 : W1.cell? ⟨w.heap.size, 8, none⟩ = some (.int .i64 m.w) := cell_of_block zc0 8 (by simp)
  have c09 : W1.cell? ⟨w.heap.size, 9, none⟩ = some (.int .i64 m.xl) := cell_of_block zc0 9 (by simp)
  have c010 : W1.cell? ⟨w.heap.size, 10, none⟩ = some (.int .i64 m.xh) := cell_of_block zc0 10 (by simp)
  have c011 : W1.cell? ⟨w.heap.size, 11, none⟩ = some (.int .i64 m.hl) := cell_of_block zc0 11 (by simp)
  have c012 : W1.cell? ⟨w.heap.size, 12, none⟩ = some (.int .i64 m.hh) := cell_of_block zc0 12 (by simp)
  have c013 : W1.cell? ⟨w.heap.size, 13, none⟩ = some (.slice y.aT y.nT y.cT) := cell_of_block zc0 13 (by simp)
  have c014 : W1.cell? ⟨w.heap.size, 14, none⟩ = some (.slice y.aR y.nR y.cR) := cell_of_block zc0 14 (by simp)
  have c015 : W1.cell? ⟨w.heap.size, 15, none⟩ = some (.int .i64 y.sl) := cell_of_block zc0 15 (by simp)
  have c016 : W1.cell? ⟨w.heap.size, 16, none⟩ = some (.int .i64 y.sh) := cell_of_block zc0 16 (by simp)
  have c017 : W1.cell? ⟨w.heap.size, 17, none⟩ = some (.int .i64 y.gl) := cell_of_block zc0 17 (by simp)
  have c018 : W1.cell? ⟨w.heap.size, 18, none⟩ = some (.int .i64 y.gh) := cell_of_block zc0 18 (by simp)
  have c019 : W1.cell? ⟨w.heap.size, 19, none⟩ = some (.int .i64 y.hl) := cell_of_block zc0 19 (by simp)
  have c020 : W1.cell? ⟨w.heap.size, 20, none⟩ = some (.int .i64 y.hh) := cell_of_block zc0 20 (by simp)
  have c021 : W1.cell? ⟨w.heap.size, 21, none⟩ = some (.int .i64 tl) := cell_of_block zc0 21 (by simp)
  have c022 : W1.cell? ⟨w.heap.size, 22, none⟩ = some (.int .i64 th) := cell_of_block zc0 22 (by simp)
  have c023 : W1.cell? ⟨w.heap.size, 23, none⟩ = some (.slice aC nC cC) := cell_of_block zc0 23 (by simp)
  have c024 : W1.cell? ⟨w.heap.size, 24, none⟩ = some (.slice aL c.n cL) := cell_of_block zc0 24 (by simp)
  have c025 : W1.cell? ⟨w.heap.size, 25, none⟩ = some (.slice aV mV cV) := cell_of_block zc0 25 (by simp)
  have c026 : W1.cell? ⟨w.heap.size, 26, none⟩ = some (.slice aM k cM) := cell_of_block zc0 26 (by simp)
  have lc0 := (Array.getElem?_eq_some_iff.1 zc0).1
  have Zc0 := Lib.hid zc0
  clear zc0
  have HBc := Lib.hid hBc; clear hBc
  have HWc := Lib.hid hW1; clear hW1
  obtain ⟨e1, e2, e3⟩ : L2.maltB dl dh wl wh pl ph = true ∧ ystB y = true ∧ L4.curveB c.n mV c.L c.A c.B = true := by unfold fieldB at h; simp only [Bool.and_eq_true] at h; exact ⟨h.1, h.2.1, h.2.2⟩
  have RM := rmalt_any dl dh wl wh pl ph
  have RY := fun W (hb : Below w.heap.size w W) => rYeast_any y W (hY.below hb) hYf
  have RC := fun W (hb : Below w.heap.size w W) => L4.rcurve_any aL aV c.n mV cL cV c.L c.A c.B W (by omega) (by omega) (hL.below hb) (hV.below hb)
  rw [e1] at RM
  rw [e2] at RY
  rw [e3] at RC
  unfold Yst.val at RY
  have RM := Lib.hid RM; have RY := Lib.hid RY; have RC := Lib.hid RC
  have PL := fun W (hb : Below w.heap.size w W) => L2.Play_any dl dh wl wh pl ph aS nS cS K A Bs W (hS.below hb)
  have PL := Lib.hid PL
  have HY := Lib.hid hY; have HYF := Lib.hid hYf; have HC := Lib.hid hC; have HL := Lib.hid hL; have HV := Lib.hid hV; have HM := Lib.hid hM; have E2 := Lib.hid e2
  have YS := (ystB_t e2).2.2.2.2.1
  clear hY hYf hC hL hV hM hS e1 e2 e3 h
  have d1 : decide ((nS : Int) > 30) = false := by simp; omega
  have e1 : decide ((30 : Int) < (nS : Int)) = false := by simp; omega
  have g1 : decide (30 < nS) = false := by simp; omega
  have d2 : decide ((nC : Int) > 30) = false := by simp; omega
  have e2 : decide ((30 : Int) < (nC : Int)) = false := by simp; omega
  have g2 : decide (30 < nC) = false := by simp; omega
  have d3 : decide ((k : Int) > 20) = false := by simp; omega
  have e3 : decide ((20 : Int) < (k : Int)) = false := by simp; omega
  have g3 : decide (20 < k) = false := by simp; omega
  have d4 : decide ((c.n : Int) > 40) = false := by simp; omega
  have e4 : decide ((40 : Int) < (c.n : Int)) = false := by simp; omega
  have g4 : decide (40 < c.n) = false := by simp; omega
  have d5 : decide ((mV : Int) > 40) = false := by simp; omega
  have e5 : decide ((40 : Int) < (mV : Int)) = false := by simp; omega
  have g5 : decide (40 < mV) = false := by simp; omega
  go_enter Try.func3, Try.ntmps3
  go_upto_region 1 with (fail)
  rw [HWc.out]
  go_wp2_with fail
  refine (Calls.grown (RM.out _)).mono ?_
  rintro e w1 ⟨rfl, z1, rfl⟩
  go_wp2_with fail
  refine (Calls.gw_of (RY.out _ (HBc.out.gw z1))).mono ?_
  rintro e w1 ⟨rfl, z2, rfl⟩
  go_wp2_with fail
  refine (Calls.gw_of (RC.out _ (HBc.out.gw z2))).mono ?_
  rintro e w1 ⟨rfl, z3, rfl⟩
  go_wp2_with fail
  refine (PL.out _ (HBc.out.gw z3)).mono ?_
  rintro e w2 ⟨hb2, hp⟩
  clear c00 c01 c02 c03 c04 c05 c06 c07 c08 c09 c010 c011 c012 c013 c014 c015 c016 c017 c018 c019 c020 c021 c022 c023 c024 c025 c026
  have b2 := thru hb2 (below_gw W1 z3)
  clear hb2 lc0
  have ZR1 := Lib.hid ((b2.block _ (Array.getElem?_eq_some_iff.1 Zc0.out).1).trans Zc0.out)
  have LOW2 := Lib.hid (thru b2 HBc.out)
  clear b2 Zc0 HBc
  rcases hp with ⟨p0, rfl⟩ | ⟨p0, ix, rfl⟩
  rotate_left
  · obtain ⟨ev, hev⟩ : ∃ x, L2.playE dl dh wl wh pl ph nS K A Bs = x := ⟨_, rfl⟩
    rw [hev] at p0 ⊢
    clear hev
    have dx : (ev == 0) = false := by simp; exact p0
    have dx2 : (ev != 0) = true := by simp; exact p0
    unfold L2.noMalt L2.noLoss
    go_wp2_with fail
    refine (awake_any _).mono ?_
    rintro e w99 ⟨rfl, hb99⟩
    go_wp2_with fail
    go_ret
    exact ⟨rfl, thru hb99 (thru ((below_alloc _ _).alloc (by simp) _) LOW2.out)⟩
  obtain ⟨q1, q2, q3⟩ := L2.play_zero p0
  have OK := q3 nS (Nat.le_refl _)
  obtain ⟨v, hv⟩ : ∃ x, (L2.vt6 dl dh wl wh pl ph).at K A Bs nS = x := ⟨_, rfl⟩
  rw [hv] at OK ⊢
  have OKd := OK.d
  clear hv OK q1 q2 q3 p0
  unfold L2.Vt.malt L2.Vt.loss
  go_upto_region 4 with (fail)
  obtain ⟨W3, hW3⟩ : ∃ V, ((w2).alloc (.cells #[.int .i64 v.dl, .int .i64 v.dh, .int .i64 v.wl, .int .i64 v.wh, .int .i64 v.pl, .int .i64 v.ph] 25)).alloc (.cells #[.int .i64 v.tl, .int .i64 v.th, .int .i64 v.gl, .int .i64 v.gh, .int .i64 v.rl, .int .i64 v.rh, .int .i64 v.sl, .int .i64 v.sh] 43) = V := ⟨_, rfl⟩
  have bW3 : Below w2.heap.size w2 W3 := by rw [← hW3]; exact (below_alloc _ _).alloc (by simp) _
  have zW3_M : W3.heap[w2.heap.size]? = some (.cells #[.int .i64 v.dl, .int .i64 v.dh, .int .i64 v.wl, .int .i64 v.wh, .int .i64 v.pl, .int .i64 v.ph] 25 (0, 0)) := by rw [← hW3]; exact alloc_keep (alloc_at rfl)
  have zW3_O : W3.heap[w2.heap.size + 1]? = some (.cells #[.int .i64 v.tl, .int .i64 v.th, .int .i64 v.gl, .int .i64 v.gh, .int .i64 v.rl, .int .i64 v.rh, .int .i64 v.sl, .int .i64 v.sh] 43 (0, 0)) := by rw [← hW3]; exact alloc_at (by simp)
  rw [hW3]
  clear hW3
  have ZR3 := Lib.hid ((bW3.block _ (Array.getElem?_eq_some_iff.1 ZR1.out).1).trans ZR1.out)
  have LOW4 := Lib.hid (thru bW3 LOW2.out)
  clear bW3 ZR1 LOW2
  have ZM5 := Lib.hid zW3_M
  clear zW3_M
  have ZO6 := Lib.hid zW3_O
  clear zW3_O
  go_upto_region 6 with (fail)
  have lM := (Array.getElem?_eq_some_iff.1 ZM5.out).1
  have cM0 : W3.cell? ⟨w2.heap.size, 0, none⟩ = some (.int .i64 v.dl) := cell_of_block ZM5.out 0 (by simp)
  have cM1 : W3.cell? ⟨w2.heap.size, 1, none⟩ = some (.int .i64 v.dh) := cell_of_block ZM5.out 1 (by simp)
  have lR := (Array.getElem?_eq_some_iff.1 ZR3.out).1
  have cR7 : W3.cell? ⟨w.heap.size, 7, none⟩ = some (.int .i64 m.g) := cell_of_block ZR3.out 7 (by simp)
  have fR7 := frozen_of_block ZR3.out 7
  have SO := Lib.hid (fun W => some_any v.dl v.dh by_ W OKd.1 OKd.2.1 OKd.2.2 hby.1 hby.2)
  go_wp2_with fail
  refine (Calls.grown (SO.out _)).mono ?_
  rintro e w4 ⟨rfl, z4, rfl⟩
  go_upto_region 7 with (fail)
  clear lM cM0 cM1 lR cR7 fR7
  obtain ⟨mm, hmm⟩ : ∃ x : Msh, (⟨v.dl + by_ % (v.dh - v.dl + 1), m.w, m.xl, m.xh, m.hl, m.hh⟩ : Msh) = x := ⟨_, rfl⟩
  obtain ⟨W4, hW4⟩ : ∃ V, (gw W3 z4).setCell ⟨w.heap.size, 7, none⟩ (.int .i64 (v.dl + by_ % (v.dh - v.dl + 1))) = V := ⟨_, rfl⟩
  have LOWA := Lib.hid (show Below w.heap.size w W4 by rw [← hW4]; exact (LOW4.out.gw z4).setCell (p := ⟨w.heap.size, 7, none⟩) (by simp) _)
  have ZRA := Lib.hid (show W4.heap[w.heap.size]? = some (.cells #[.int .i64 dl, .int .i64 dh, .int .i64 wl, .int .i64 wh, .int .i64 pl, .int .i64 ph, .slice aS nS cS, .int .i64 mm.g, .int .i64 mm.w, .int .i64 mm.xl, .int .i64 mm.xh, .int .i64 mm.hl, .int .i64 mm.hh, .slice y.aT y.nT y.cT, .slice y.aR y.nR y.cR, .int .i64 y.sl, .int .i64 y.sh, .int .i64 y.gl, .int .i64 y.gh, .int .i64 y.hl, .int .i64 y.hh, .int .i64 tl, .int .i64 th, .slice aC nC cC, .slice aL c.n cL, .slice aV mV cV, .slice aM k cM] 36 (0, 0)) by rw [← hW4, ← hmm]; exact block_set 7 _ (L2.gw_keep ZR3.out z4))
  rw [hW4]
  clear hW4 hmm OKd hby SO LOW4 ZR3 ZM5
  have lR := (Array.getElem?_eq_some_iff.1 ZRA.out).1
  have cR7 : W4.cell? ⟨w.heap.size, 7, none⟩ = some (.int .i64 mm.g) := cell_of_block ZRA.out 7 (by simp)
  have cR8 : W4.cell? ⟨w.heap.size, 8, none⟩ = some (.int .i64 mm.w) := cell_of_block ZRA.out 8 (by simp)
  have cR9 : W4.cell? ⟨w.heap.size, 9, none⟩ = some (.int .i64 mm.xl) := cell_of_block ZRA.out 9 (by simp)
  have cR10 : W4.cell? ⟨w.heap.size, 10, none⟩ = some (.int .i64 mm.xh) := cell_of_block ZRA.out 10 (by simp)
  have cR11 : W4.cell? ⟨w.heap.size, 11, none⟩ = some (.int .i64 mm.hl) := cell_of_block ZRA.out 11 (by simp)
  have cR12 : W4.cell? ⟨w.heap.size, 12, none⟩ = some (.int .i64 mm.hh) := cell_of_block ZRA.out 12 (by simp)
  have MA := fun W => Mash_any mm W
  unfold Msh.val MOut.val at MA
  by_cases hE : mashE mm = 0
  rotate_left
  · have MA := Lib.hid MA
    obtain ⟨ev, hev⟩ : ∃ x, mashE mm = x := ⟨_, rfl⟩
    rw [hev] at hE MA
    clear hev
    have dx : (ev == 0) = false := by simp; exact hE
    have dx2 : (ev != 0) = true := by simp; exact hE
    go_wp2_with fail
    refine (MA.out _).mono ?_
    rintro e w5 ⟨rfl, hb5⟩
    go_wp2_with fail
    refine (awake_any _).mono ?_
    rintro e w99 ⟨rfl, hb99⟩
    go_wp2_with fail
    go_ret
    exact ⟨rfl, thru hb99 (thru ((below_alloc _ _).alloc (by simp) _) (thru hb5 LOWA.out))⟩
  obtain ⟨⟨g0, g1⟩, ⟨x0, x1⟩, ⟨v0, v1⟩, f1, f2, f3, f4, f5, f6, f7, f8, f9, f10⟩ := field_mash hE
  rw [hE] at MA
  obtain ⟨o, ho⟩ : ∃ x, mashO mm = x := ⟨_, rfl⟩
  simp only [ho] at MA f1 f2 f3 f4 f5 f6 f7 f8 f9 f10
  clear ho hE
  have MA := Lib.hid MA
  have P0 : 0 ≤ mm.g * mm.xh := Int.mul_nonneg (by omega) x0
  have P1 : mm.g * mm.xh ≤ 16777216 * 1000 := Int.mul_le_mul g1 x1 x0 (by omega)
  go_wp2_with fail
  refine (MA.out _).mono ?_
  rintro e w5 ⟨rfl, hb5⟩
  clear lR cR7 cR8 cR9 cR10 cR11 cR12
  have ZR7 := Lib.hid ((hb5.block _ (Array.getElem?_eq_some_iff.1 ZRA.out).1).trans ZRA.out)
  have LOW8 := Lib.hid (thru hb5 LOWA.out)
  clear hb5 ZRA LOWA
  clear MA
  go_upto_region 8 with (fail)
  obtain ⟨W6, hW6⟩ : ∃ V, ((w5).alloc (.cells #[.int .i64 o.sl, .int .i64 o.sh, .int .i64 o.vl, .int .i64 o.vh] 49)).alloc (.cells #[.int .i64 o.ll, .int .i64 o.lh] 23) = V := ⟨_, rfl⟩
  have bW6 : Below w5.heap.size w5 W6 := by rw [← hW6]; exact (below_alloc _ _).alloc (by simp) _
  have zW6_T : W6.heap[w5.heap.size]? = some (.cells #[.int .i64 o.sl, .int .i64 o.sh, .int .i64 o.vl, .int .i64 o.vh] 49 (0, 0)) := by rw [← hW6]; exact alloc_keep (alloc_at rfl)
  have zW6_N : W6.heap[w5.heap.size + 1]? = some (.cells #[.int .i64 o.ll, .int .i64 o.lh] 23 (0, 0)) := by rw [← hW6]; exact alloc_at (by simp)
  rw [hW6]
  clear hW6
  have ZR9 := Lib.hid ((bW6.block _ (Array.getElem?_eq_some_iff.1 ZR7.out).1).trans ZR7.out)
  have LOW10 := Lib.hid (thru bW6 LOW8.out)
  clear bW6 ZR7 LOW8
  have ZT11 := Lib.hid zW6_T
  clear zW6_T
  have ZN12 := Lib.hid zW6_N
  clear zW6_N
  have lR := (Array.getElem?_eq_some_iff.1 ZR9.out).1
  have cR7 : W6.cell? ⟨w.heap.size, 7, none⟩ = some (.int .i64 mm.g) := cell_of_block ZR9.out 7 (by simp)
  have cR8 : W6.cell? ⟨w.heap.size, 8, none⟩ = some (.int .i64 mm.w) := cell_of_block ZR9.out 8 (by simp)
  have cR10 : W6.cell? ⟨w.heap.size, 10, none⟩ = some (.int .i64 mm.xh) := cell_of_block ZR9.out 10 (by simp)
  have cR21 : W6.cell? ⟨w.heap.size, 21, none⟩ = some (.int .i64 tl) := cell_of_block ZR9.out 21 (by simp)
  have cR22 : W6.cell? ⟨w.heap.size, 22, none⟩ = some (.int .i64 th) := cell_of_block ZR9.out 22 (by simp)
  have lT := (Array.getElem?_eq_some_iff.1 ZT11.out).1
  have cT0 : W6.cell? ⟨w5.heap.size, 0, none⟩ = some (.int .i64 o.sl) := cell_of_block ZT11.out 0 (by simp)
  have cT1 : W6.cell? ⟨w5.heap.size, 1, none⟩ = some (.int .i64 o.sh) := cell_of_block ZT11.out 1 (by simp)
  have cT2 : W6.cell? ⟨w5.heap.size, 2, none⟩ = some (.int .i64 o.vl) := cell_of_block ZT11.out 2 (by simp)
  have cT3 : W6.cell? ⟨w5.heap.size, 3, none⟩ = some (.int .i64 o.vh) := cell_of_block ZT11.out 3 (by simp)
  have lN := (Array.getElem?_eq_some_iff.1 ZN12.out).1
  have cN1 : W6.cell? ⟨w5.heap.size + 1, 1, none⟩ = some (.int .i64 o.lh) := cell_of_block ZN12.out 1 (by simp)
  have d20 : decide (1000 * (o.sh + o.lh) < mm.g * mm.xh) = false := by simp; omega
  have d21 : decide (1000 * o.sl > mm.g * mm.xh) = false := by simp; omega
  have d22 : decide (mm.g * mm.xh < 1000 * o.sl) = false := by simp; omega
  have d23 : decide (o.vh > mm.w) = false := by simp; omega
  have d24 : decide (mm.w < o.vh) = false := by simp; omega
  go_upto_region 14 with (fail)
  clear lR cR7 cR8 cR10 cR21 cR22 lT cT0 cT1 cT2 cT3 lN cN1
  clear d20 d21 d22 d23 d24
  have oR : w.heap.size < W6.heap.size := (Array.getElem?_eq_some_iff.1 ZR9.out).1
  have oT : w5.heap.size < W6.heap.size := (Array.getElem?_eq_some_iff.1 ZT11.out).1
  obtain ⟨W7, hW7⟩ : ∃ V, (W6).alloc (.cells #[.int .i64 o.sl, .int .i64 o.sh, .int .i64 0, .int .i64 0, .int .i64 0, .int .i64 0, .int .i64 0, .int .i64 0, .int .i64 0, .int .i64 0, .int .i64 tl, .int .i64 th, .int .i64 (4 * o.vl)] 53) = V := ⟨_, rfl⟩
  have bW7 : Below W6.heap.size W6 W7 := by rw [← hW7]; exact below_alloc _ _
  have zW7_V : W7.heap[W6.heap.size]? = some (.cells #[.int .i64 o.sl, .int .i64 o.sh, .int .i64 0, .int .i64 0, .int .i64 0, .int .i64 0, .int .i64 0, .int .i64 0, .int .i64 0, .int .i64 0, .int .i64 tl, .int .i64 th, .int .i64 (4 * o.vl)] 53 (0, 0)) := by rw [← hW7]; exact alloc_at rfl
  rw [hW7]
  clear hW7
  have ZR13 := Lib.hid ((bW7.block _ (Array.getElem?_eq_some_iff.1 ZR9.out).1).trans ZR9.out)
  have ZT14 := Lib.hid ((bW7.block _ (Array.getElem?_eq_some_iff.1 ZT11.out).1).trans ZT11.out)
  have ZN15 := Lib.hid ((bW7.block _ (Array.getElem?_eq_some_iff.1 ZN12.out).1).trans ZN12.out)
  have LOW16 := Lib.hid (thru bW7 LOW10.out)
  clear bW7 ZR9 ZT11 ZN12 LOW10
  have ZV17 := Lib.hid zW7_V
  clear zW7_V
  have lR := (Array.getElem?_eq_some_iff.1 ZR13.out).1
  have cR13 : W7.cell? ⟨w.heap.size, 13, none⟩ = some (.slice y.aT y.nT y.cT) := cell_of_block ZR13.out 13 (by simp)
  have cR14 : W7.cell? ⟨w.heap.size, 14, none⟩ = some (.slice y.aR y.nR y.cR) := cell_of_block ZR13.out 14 (by simp)
  have cR15 : W7.cell? ⟨w.heap.size, 15, none⟩ = some (.int .i64 y.sl) := cell_of_block ZR13.out 15 (by simp)
  have cR16 : W7.cell? ⟨w.heap.size, 16, none⟩ = some (.int .i64 y.sh) := cell_of_block ZR13.out 16 (by simp)
  have cR17 : W7.cell? ⟨w.heap.size, 17, none⟩ = some (.int .i64 y.gl) := cell_of_block ZR13.out 17 (by simp)
  have cR18 : W7.cell? ⟨w.heap.size, 18, none⟩ = some (.int .i64 y.gh) := cell_of_block ZR13.out 18 (by simp)
  have cR19 : W7.cell? ⟨w.heap.size, 19, none⟩ = some (.int .i64 y.hl) := cell_of_block ZR13.out 19 (by simp)
  have cR20 : W7.cell? ⟨w.heap.size, 20, none⟩ = some (.int .i64 y.hh) := cell_of_block ZR13.out 20 (by simp)
  have cR23 : W7.cell? ⟨w.heap.size, 23, none⟩ = some (.slice aC nC cC) := cell_of_block ZR13.out 23 (by simp)
  have lV := (Array.getElem?_eq_some_iff.1 ZV17.out).1
  have cV0 : W7.cell? ⟨W6.heap.size, 0, none⟩ = some (.int .i64 o.sl) := cell_of_block ZV17.out 0 (by simp)
  have cV1 : W7.cell? ⟨W6.heap.size, 1, none⟩ = some (.int .i64 o.sh) := cell_of_block ZV17.out 1 (by simp)
  have cV2 : W7.cell? ⟨W6.heap.size, 2, none⟩ = some (.int .i64 0) := cell_of_block ZV17.out 2 (by simp)
  have cV3 : W7.cell? ⟨W6.heap.size, 3, none⟩ = some (.int .i64 0) := cell_of_block ZV17.out 3 (by simp)
  have cV4 : W7.cell? ⟨W6.heap.size, 4, none⟩ = some (.int .i64 0) := cell_of_block ZV17.out 4 (by simp)
  have cV5 : W7.cell? ⟨W6.heap.size, 5, none⟩ = some (.int .i64 0) := cell_of_block ZV17.out 5 (by simp)
  have cV6 : W7.cell? ⟨W6.heap.size, 6, none⟩ = some (.int .i64 0) := cell_of_block ZV17.out 6 (by simp)
  have cV7 : W7.cell? ⟨W6.heap.size, 7, none⟩ = some (.int .i64 0) := cell_of_block ZV17.out 7 (by simp)
  have cV8 : W7.cell? ⟨W6.heap.size, 8, none⟩ = some (.int .i64 0) := cell_of_block ZV17.out 8 (by simp)
  have cV9 : W7.cell? ⟨W6.heap.size, 9, none⟩ = some (.int .i64 0) := cell_of_block ZV17.out 9 (by simp)
  have cV10 : W7.cell? ⟨W6.heap.size, 10, none⟩ = some (.int .i64 tl) := cell_of_block ZV17.out 10 (by simp)
  have cV11 : W7.cell? ⟨W6.heap.size, 11, none⟩ = some (.int .i64 th) := cell_of_block ZV17.out 11 (by simp)
  have cV12 : W7.cell? ⟨W6.heap.size, 12, none⟩ = some (.int .i64 (4 * o.vl)) := cell_of_block ZV17.out 12 (by simp)
  have FE := fun W (hb : Below w.heap.size w W) => Ferment_any aC nC cC FF GG y (wortV o.sl o.sh tl th (4 * o.vl)) W (HY.out.below hb) HYF.out (HC.out.below hb) (by omega)
  unfold Yst.val Vat.val wortV FerR at FE
  dsimp only at FE
  have LV := Lib.hid (show ∀ hG : ferE y (wortV o.sl o.sh tl th (4 * o.vl)) nC FF GG = 0, ferN y (wortV o.sl o.sh tl th (4 * o.vl)) nC FF GG = nC from fun hG => if_pos hG)
  by_cases hG : ferE y (wortV o.sl o.sh tl th (4 * o.vl)) nC FF GG = 0
  rotate_left
  · have FE := Lib.hid FE
    have hG2 := hG
    unfold wortV at hG2
    obtain ⟨ev, hev⟩ : ∃ x, ferE y ⟨o.sl, o.sh, 0, 0, 0, 0, 0, 0, 0, 0, tl, th, 4 * o.vl⟩ nC FF GG = x := ⟨_, rfl⟩
    rw [hev] at hG2
    simp only [hev] at FE
    clear hev hG
    have dx : (ev == 0) = false := by simp; exact hG2
    have dx2 : (ev != 0) = true := by simp; exact hG2
    go_wp2_with fail
    refine (FE.out _ LOW16.out).mono ?_
    rintro e w8 ⟨vl, rfl, -, hb8⟩
    go_wp2_with fail
    refine (awake_any _).mono ?_
    rintro e w99 ⟨rfl, hb99⟩
    go_wp2_with fail
    go_ret
    exact ⟨rfl, thru hb99 (thru hb8 LOW16.out)⟩
  have FZ := Lib.hid (ferE_zero hG).2.2.2.2
  have FN := LV.out hG
  unfold wortV at hG FN
  simp only [hG, FN] at FE
  have FE := Lib.hid FE
  clear LV hG FN
  go_wp2_with fail
  refine (FE.out _ LOW16.out).mono ?_
  rintro e w8 ⟨vl, rfl, hown, hb8⟩
  obtain ⟨av, cv, rfl⟩ := own_form hown
  have OW := Lib.hid hown
  clear hown FE
  clear lR cR13 cR14 cR15 cR16 cR17 cR18 cR19 cR20 cR23 lV cV0 cV1 cV2 cV3 cV4 cV5 cV6 cV7 cV8 cV9 cV10 cV11 cV12
  have ZR18 := Lib.hid ((hb8.block _ (Array.getElem?_eq_some_iff.1 ZR13.out).1).trans ZR13.out)
  have ZT19 := Lib.hid ((hb8.block _ (Array.getElem?_eq_some_iff.1 ZT14.out).1).trans ZT14.out)
  have ZN20 := Lib.hid ((hb8.block _ (Array.getElem?_eq_some_iff.1 ZN15.out).1).trans ZN15.out)
  have ZV21 := Lib.hid ((hb8.block _ (Array.getElem?_eq_some_iff.1 ZV17.out).1).trans ZV17.out)
  have LOW22 := Lib.hid (thru hb8 LOW16.out)
  clear hb8 ZR13 ZT14 ZN15 ZV17 LOW16
  have lR := (Array.getElem?_eq_some_iff.1 ZR18.out).1
  have cR23 : w8.cell? ⟨w.heap.size, 23, none⟩ = some (.slice aC nC cC) := cell_of_block ZR18.out 23 (by simp)
  go_upto_region 19 with (fail)
  by_cases hn : 0 < nC
  · clear lR cR23
    obtain ⟨i, rfl⟩ : ∃ i, nC = i + 1 := ⟨nC - 1, by omega⟩
    clear hn
    obtain ⟨a2, cp2, hv2, ht⟩ := tups_of_own OW.out
    cases hv2
    rcases ht with h0 | ⟨bv, ov, rfl, lbv, hcv⟩
    · omega
    have u0 := hcv i (by omega)
    dsimp only at u0
    clear hcv
    obtain ⟨u, hu⟩ : ∃ x, y.vs (wortV o.sl o.sh tl th (4 * o.vl)) FF GG (i + 1) = x := ⟨_, rfl⟩
    have u1 := u0
    unfold wortV at hu
    rw [hu] at u1
    clear u0
    have n0 : w8.cell? ⟨bv, ov + i * 13, none⟩ = some (.int .i64 u.sl) := u1 0 (by omega)
    have n1 : w8.cell? ⟨bv, ov + i * 13 + 1, none⟩ = some (.int .i64 u.sh) := u1 1 (by omega)
    have n2 : w8.cell? ⟨bv, ov + i * 13 + 2, none⟩ = some (.int .i64 u.el) := u1 2 (by omega)
    have n3 : w8.cell? ⟨bv, ov + i * 13 + 3, none⟩ = some (.int .i64 u.eh) := u1 3 (by omega)
    have n4 : w8.cell? ⟨bv, ov + i * 13 + 4, none⟩ = some (.int .i64 u.pl) := u1 4 (by omega)
    have n5 : w8.cell? ⟨bv, ov + i * 13 + 5, none⟩ = some (.int .i64 u.ph) := u1 5 (by omega)
    have n6 : w8.cell? ⟨bv, ov + i * 13 + 6, none⟩ = some (.int .i64 u.gl) := u1 6 (by omega)
    have n7 : w8.cell? ⟨bv, ov + i * 13 + 7, none⟩ = some (.int .i64 u.gh) := u1 7 (by omega)
    have n8 : w8.cell? ⟨bv, ov + i * 13 + 8, none⟩ = some (.int .i64 u.ol) := u1 8 (by omega)
    have n9 : w8.cell? ⟨bv, ov + i * 13 + 9, none⟩ = some (.int .i64 u.oh) := u1 9 (by omega)
    have n10 : w8.cell? ⟨bv, ov + i * 13 + 10, none⟩ = some (.int .i64 u.tl) := u1 10 (by omega)
    have n11 : w8.cell? ⟨bv, ov + i * 13 + 11, none⟩ = some (.int .i64 u.th) := u1 11 (by omega)
    have n12 : w8.cell? ⟨bv, ov + i * 13 + 12, none⟩ = some (.int .i64 u.c) := u1 12 (by omega)
    clear u1
    have lV := (Array.getElem?_eq_some_iff.1 ZV21.out).1
    have cV0 : w8.cell? ⟨W6.heap.size, 0, none⟩ = some (.int .i64 o.sl) := cell_of_block ZV21.out 0 (by simp)
    have cV1 : w8.cell? ⟨W6.heap.size, 1, none⟩ = some (.int .i64 o.sh) := cell_of_block ZV21.out 1 (by simp)
    have cV2 : w8.cell? ⟨W6.heap.size, 2, none⟩ = some (.int .i64 0) := cell_of_block ZV21.out 2 (by simp)
    have cV3 : w8.cell? ⟨W6.heap.size, 3, none⟩ = some (.int .i64 0) := cell_of_block ZV21.out 3 (by simp)
    have cV4 : w8.cell? ⟨W6.heap.size, 4, none⟩ = some (.int .i64 0) := cell_of_block ZV21.out 4 (by simp)
    have cV5 : w8.cell? ⟨W6.heap.size, 5, none⟩ = some (.int .i64 0) := cell_of_block ZV21.out 5 (by simp)
    have cV6 : w8.cell? ⟨W6.heap.size, 6, none⟩ = some (.int .i64 0) := cell_of_block ZV21.out 6 (by simp)
    have cV7 : w8.cell? ⟨W6.heap.size, 7, none⟩ = some (.int .i64 0) := cell_of_block ZV21.out 7 (by simp)
    have cV8 : w8.cell? ⟨W6.heap.size, 8, none⟩ = some (.int .i64 0) := cell_of_block ZV21.out 8 (by simp)
    have cV9 : w8.cell? ⟨W6.heap.size, 9, none⟩ = some (.int .i64 0) := cell_of_block ZV21.out 9 (by simp)
    have cV10 : w8.cell? ⟨W6.heap.size, 10, none⟩ = some (.int .i64 tl) := cell_of_block ZV21.out 10 (by simp)
    have cV11 : w8.cell? ⟨W6.heap.size, 11, none⟩ = some (.int .i64 th) := cell_of_block ZV21.out 11 (by simp)
    have cV12 : w8.cell? ⟨W6.heap.size, 12, none⟩ = some (.int .i64 (4 * o.vl)) := cell_of_block ZV21.out 12 (by simp)
    have fV0 := frozen_of_block ZV21.out 0
    have fV1 := frozen_of_block ZV21.out 1
    have fV2 := frozen_of_block ZV21.out 2
    have fV3 := frozen_of_block ZV21.out 3
    have fV4 := frozen_of_block ZV21.out 4
    have fV5 := frozen_of_block ZV21.out 5
    have fV6 := frozen_of_block ZV21.out 6
    have fV7 := frozen_of_block ZV21.out 7
    have fV8 := frozen_of_block ZV21.out 8
    have fV9 := frozen_of_block ZV21.out 9
    have fV10 := frozen_of_block ZV21.out 10
    have fV11 := frozen_of_block ZV21.out 11
    have fV12 := frozen_of_block ZV21.out 12
    go_upto_region 21 with (fail)
    clear lV cV0 cV1 cV2 cV3 cV4 cV5 cV6 cV7 cV8 cV9 cV10 cV11 cV12 fV0 fV1 fV2 fV3 fV4 fV5 fV6 fV7 fV8 fV9 fV10 fV11 fV12
    clear n0 n1 n2 n3 n4 n5 n6 n7 n8 n9 n10 n11 n12
    obtain ⟨W9, hW9⟩ : ∃ V, (((((((((((((w8).setCell ⟨W6.heap.size, 0, none⟩ (.int .i64 u.sl)).setCell ⟨W6.heap.size, 1, none⟩ (.int .i64 u.sh)).setCell ⟨W6.heap.size, 2, none⟩ (.int .i64 u.el)).setCell ⟨W6.heap.size, 3, none⟩ (.int .i64 u.eh)).setCell ⟨W6.heap.size, 4, none⟩ (.int .i64 u.pl)).setCell ⟨W6.heap.size, 5, none⟩ (.int .i64 u.ph)).setCell ⟨W6.heap.size, 6, none⟩ (.int .i64 u.gl)).setCell ⟨W6.heap.size, 7, none⟩ (.int .i64 u.gh)).setCell ⟨W6.heap.size, 8, none⟩ (.int .i64 u.ol)).setCell ⟨W6.heap.size, 9, none⟩ (.int .i64 u.oh)).setCell ⟨W6.heap.size, 10, none⟩ (.int .i64 u.tl)).setCell ⟨W6.heap.size, 11, none⟩ (.int .i64 u.th)).setCell ⟨W6.heap.size, 12, none⟩ (.int .i64 u.c) = V := ⟨_, rfl⟩
    have LOWB := Lib.hid (show Below w.heap.size w W9 by rw [← hW9]; exact sets13_below LOW22.out (Nat.le_of_lt oR) u.sl u.sh u.el u.eh u.pl u.ph u.gl u.gh u.ol u.oh u.tl u.th u.c)
    have ZRB := Lib.hid (show W9.heap[w.heap.size]? = some (.cells #[.int .i64 dl, .int .i64 dh, .int .i64 wl, .int .i64 wh, .int .i64 pl, .int .i64 ph, .slice aS nS cS, .int .i64 mm.g, .int .i64 mm.w, .int .i64 mm.xl, .int .i64 mm.xh, .int .i64 mm.hl, .int .i64 mm.hh, .slice y.aT y.nT y.cT, .slice y.aR y.nR y.cR, .int .i64 y.sl, .int .i64 y.sh, .int .i64 y.gl, .int .i64 y.gh, .int .i64 y.hl, .int .i64 y.hh, .int .i64 tl, .int .i64 th, .slice aC (i + 1) cC, .slice aL c.n cL, .slice aV mV cV, .slice aM k cM] 36 (0, 0)) by rw [← hW9]; exact (sets13_far (Nat.ne_of_lt oR) u.sl u.sh u.el u.eh u.pl u.ph u.gl u.gh u.ol u.oh u.tl u.th u.c).trans ZR18.out)
    have ZTB := Lib.hid (show W9.heap[w5.heap.size]? = some (.cells #[.int .i64 o.sl, .int .i64 o.sh, .int .i64 o.vl, .int .i64 o.vh] 49 (0, 0)) by rw [← hW9]; exact (sets13_far (Nat.ne_of_lt oT) u.sl u.sh u.el u.eh u.pl u.ph u.gl u.gh u.ol u.oh u.tl u.th u.c).trans ZT19.out)
    have ZVB := Lib.hid (show W9.heap[W6.heap.size]? = some (.cells #[.int .i64 u.sl, .int .i64 u.sh, .int .i64 u.el, .int .i64 u.eh, .int .i64 u.pl, .int .i64 u.ph, .int .i64 u.gl, .int .i64 u.gh, .int .i64 u.ol, .int .i64 u.oh, .int .i64 u.tl, .int .i64 u.th, .int .i64 u.c] 53 (0, 0)) by rw [← hW9]; exact sets13_block ZV21.out u.sl u.sh u.el u.eh u.pl u.ph u.gl u.gh u.ol u.oh u.tl u.th u.c)
    rw [hW9]
    clear hW9 OW LOW22 ZR18 ZT19 ZV21 ZN20
    have FL := field_last E2.out (j := (i + 1)) (fun q hq => FZ.out q hq) f2 f7
    have VB := vatB_t (FZ.out (i + 1) (Nat.le_refl _))
    unfold wortV at FL VB
    rw [hu] at FL VB
    obtain ⟨l1, l2, l3⟩ := FL
    obtain ⟨-, -, ⟨pb0, pb1, pb2⟩, -⟩ := VB
    have HU := Lib.hid hu
    clear hu FZ
    have q0 : 0 ≤ o.sh * y.sl := Int.mul_nonneg (by omega) YS.1
    have q1 : o.sh * y.sl ≤ 1000000000000000 * 1000 := Int.mul_le_mul f8 (by omega) YS.1 (by omega)
    have d30 : decide (u.pl > o.sh * y.sl / 1000) = false := by simp; omega
    have d31 : decide (o.sh * y.sl / 1000 < u.pl) = false := by simp; omega
    have d32 : decide (u.pl > u.ph) = false := by simp; omega
    have d33 : decide (u.ph < u.pl) = false := by simp; omega
    have d34 : decide (u.sl > o.sh) = false := by simp; omega
    have d35 : decide (o.sh < u.sl) = false := by simp; omega
    have lV := (Array.getElem?_eq_some_iff.1 ZVB.out).1
    have cV0 : W9.cell? ⟨W6.heap.size, 0, none⟩ = some (.int .i64 u.sl) := cell_of_block ZVB.out 0 (by simp)
    have cV4 : W9.cell? ⟨W6.heap.size, 4, none⟩ = some (.int .i64 u.pl) := cell_of_block ZVB.out 4 (by simp)
    have cV5 : W9.cell? ⟨W6.heap.size, 5, none⟩ = some (.int .i64 u.ph) := cell_of_block ZVB.out 5 (by simp)
    have lT := (Array.getElem?_eq_some_iff.1 ZTB.out).1
    have cT1 : W9.cell? ⟨w5.heap.size, 1, none⟩ = some (.int .i64 o.sh) := cell_of_block ZTB.out 1 (by simp)
    have cT3 : W9.cell? ⟨w5.heap.size, 3, none⟩ = some (.int .i64 o.vh) := cell_of_block ZTB.out 3 (by simp)
    have lR := (Array.getElem?_eq_some_iff.1 ZRB.out).1
    have cR15 : W9.cell? ⟨w.heap.size, 15, none⟩ = some (.int .i64 y.sl) := cell_of_block ZRB.out 15 (by simp)
    go_upto_region 24 with (fail)
    clear lV cV0 cV4 cV5 lT cT1 cT3 lR cR15
    clear d30 d31 d32 d33 d34 d35 q0 q1
    obtain ⟨Wp, hWp⟩ : ∃ V, (W9).alloc (.cells #[.int .i64 o.vh, .int .i64 u.pl, .int .i64 (min o.vh u.ph)] 58) = V := ⟨_, rfl⟩
    have bWp : Below W9.heap.size W9 Wp := by rw [← hWp]; exact below_alloc _ _
    have zWp_P : Wp.heap[W9.heap.size]? = some (.cells #[.int .i64 o.vh, .int .i64 u.pl, .int .i64 (min o.vh u.ph)] 58 (0, 0)) := by rw [← hWp]; exact alloc_at rfl
    rw [hWp]
    clear hWp
    have ZR23 := Lib.hid ((bWp.block _ (Array.getElem?_eq_some_iff.1 ZRB.out).1).trans ZRB.out)
    have ZT24 := Lib.hid ((bWp.block _ (Array.getElem?_eq_some_iff.1 ZTB.out).1).trans ZTB.out)
    have ZV25 := Lib.hid ((bWp.block _ (Array.getElem?_eq_some_iff.1 ZVB.out).1).trans ZVB.out)
    have LOW26 := Lib.hid (thru bWp LOWB.out)
    clear bWp ZRB ZTB ZVB LOWB
    have ZP27 := Lib.hid zWp_P
    clear zWp_P
    have lR := (Array.getElem?_eq_some_iff.1 ZR23.out).1
    have cR24 : Wp.cell? ⟨w.heap.size, 24, none⟩ = some (.slice aL c.n cL) := cell_of_block ZR23.out 24 (by simp)
    have cR25 : Wp.cell? ⟨w.heap.size, 25, none⟩ = some (.slice aV mV cV) := cell_of_block ZR23.out 25 (by simp)
    have cR26 : Wp.cell? ⟨w.heap.size, 26, none⟩ = some (.slice aM k cM) := cell_of_block ZR23.out 26 (by simp)
    have lP := (Array.getElem?_eq_some_iff.1 ZP27.out).1
    have cP0 : Wp.cell? ⟨W9.heap.size, 0, none⟩ = some (.int .i64 o.vh) := cell_of_block ZP27.out 0 (by simp)
    have cP1 : Wp.cell? ⟨W9.heap.size, 1, none⟩ = some (.int .i64 u.pl) := cell_of_block ZP27.out 1 (by simp)
    have cP2 : Wp.cell? ⟨W9.heap.size, 2, none⟩ = some (.int .i64 (min o.vh u.ph)) := cell_of_block ZP27.out 2 (by simp)
    have HPO := Lib.hid (show ∃ x : L4.Pot3, (⟨o.vh, u.pl, min o.vh u.ph⟩ : L4.Pot3) = x from ⟨_, rfl⟩)
    by_cases hR : L4.runErr mV c ⟨o.vh, u.pl, min o.vh u.ph⟩ M k = 0
    rotate_left
    · have RU := L4.run_err aL aV aM mV cL cV k cM c ⟨o.vh, u.pl, min o.vh u.ph⟩ M Wp (by omega) (by omega) (by omega) (HL.out.below LOW26.out) (HV.out.below LOW26.out) (HM.out.below LOW26.out) _ rfl hR
      dsimp only at RU
      obtain ⟨ev, hev⟩ : ∃ x, L4.runErr mV c ⟨o.vh, u.pl, min o.vh u.ph⟩ M k = x := ⟨_, rfl⟩
      rw [hev] at hR RU
      clear hev
      have RU := Lib.hid RU
      have dx : (ev == 0) = false := by simp; exact hR
      have dx2 : (ev != 0) = true := by simp; exact hR
      go_wp2_with fail
      refine RU.out.mono ?_
      rintro e w10 ⟨rfl, hb10⟩
      go_wp2_with fail
      refine (awake_any _).mono ?_
      rintro e w99 ⟨rfl, hb99⟩
      go_wp2_with fail
      go_ret
      exact ⟨rfl, thru hb99 (thru (below_alloc _ _) (thru hb10 LOW26.out))⟩
    have RU := L4.run_ok aL aV aM mV cL cV k cM c ⟨o.vh, u.pl, min o.vh u.ph⟩ M Wp (by omega) (by omega) (HL.out.below LOW26.out) (HV.out.below LOW26.out) (HM.out.below LOW26.out) hR
    obtain ⟨-, -, -, rg, rp, re, rk⟩ := L4.run_zero hR
    have FD := field_drawn rg rk re
    have rkk := rk k (Nat.le_refl _)
    clear hR rg re
    dsimp only at RU FD
    obtain ⟨E, hE⟩ : ∃ x, c.potAt ⟨o.vh, u.pl, min o.vh u.ph⟩ M k = x := ⟨_, rfl⟩
    have FK := FD k (Nat.le_refl _)
    rw [hE] at rkk FK RU
    clear hE
    obtain ⟨D, hD⟩ : ∃ x, c.outAt ⟨o.vh, u.pl, min o.vh u.ph⟩ M = x := ⟨_, rfl⟩
    rw [hD] at FK
    have FJ := Lib.hid (show ∀ j, j ≤ k → 0 ≤ tlo D j ∧ 0 ≤ thi D j ∧ thi D j ≤ (j : Int) * 1073741824 from fun j hj => by have z := FD j hj; rw [hD] at z; exact ⟨z.2.2.1, z.2.2.2.1, z.2.2.2.2⟩)
    have FB := Lib.hid (show ∀ j, j ≤ k → tlo D j ≤ 1073741824 from fun j hj => by have z := FD j hj; rw [hD] at z; have o0 := (rk j hj).1; have o1 := rp.2.2.2; have o2 := rp.2.1; have o3 := rp.2.2.1; dsimp only at o1 o2 o3; omega)
    have HDD := Lib.hid hD
    clear hD FD rk
    have RU := Lib.hid RU
    obtain ⟨rk0, rk1, rk2, rk3⟩ := rkk
    obtain ⟨rp0, rp1, rp2, rp3⟩ := rp
    dsimp only at rp0 rp1 rp2 rp3
    go_wp2_with fail
    refine RU.out.mono ?_
    rintro e w10 ⟨vr, rfl, hown, hb10⟩
    obtain ⟨ar, cr, rfl, hdr⟩ := L4.drawn_of_own hown
    rw [HDD.out] at hdr
    have DR := Lib.hid hdr
    clear hown hdr RU
    clear lR cR24 cR25 cR26 lP cP0 cP1 cP2
    have ZR28 := Lib.hid ((hb10.block _ (Array.getElem?_eq_some_iff.1 ZR23.out).1).trans ZR23.out)
    have ZT29 := Lib.hid ((hb10.block _ (Array.getElem?_eq_some_iff.1 ZT24.out).1).trans ZT24.out)
    have ZV30 := Lib.hid ((hb10.block _ (Array.getElem?_eq_some_iff.1 ZV25.out).1).trans ZV25.out)
    have ZP31 := Lib.hid ((hb10.block _ (Array.getElem?_eq_some_iff.1 ZP27.out).1).trans ZP27.out)
    have LOW32 := Lib.hid (thru hb10 LOW26.out)
    clear hb10 ZR23 ZT24 ZV25 ZP27 LOW26
    go_upto_region 25 with (fail)
    obtain ⟨Wq, hWq⟩ : ∃ V, (w10).alloc (.cells #[.int .i64 E.v, .int .i64 E.lo, .int .i64 E.hi] 58) = V := ⟨_, rfl⟩
    have bWq : Below w10.heap.size w10 Wq := by rw [← hWq]; exact below_alloc _ _
    have zWq_Q : Wq.heap[w10.heap.size]? = some (.cells #[.int .i64 E.v, .int .i64 E.lo, .int .i64 E.hi] 58 (0, 0)) := by rw [← hWq]; exact alloc_at rfl
    rw [hWq]
    clear hWq
    replace DR := Lib.hid (DR.out.below bWq)
    have ZR33 := Lib.hid ((bWq.block _ (Array.getElem?_eq_some_iff.1 ZR28.out).1).trans ZR28.out)
    have ZT34 := Lib.hid ((bWq.block _ (Array.getElem?_eq_some_iff.1 ZT29.out).1).trans ZT29.out)
    have ZV35 := Lib.hid ((bWq.block _ (Array.getElem?_eq_some_iff.1 ZV30.out).1).trans ZV30.out)
    have ZP36 := Lib.hid ((bWq.block _ (Array.getElem?_eq_some_iff.1 ZP31.out).1).trans ZP31.out)
    have LOW37 := Lib.hid (thru bWq LOW32.out)
    clear bWq ZR28 ZT29 ZV30 ZP31 LOW32
    have ZQ38 := Lib.hid zWq_Q
    clear zWq_Q
    have HLW := Lib.hid (Below.refl Wq.heap.size Wq)
    go_wp2_with fail
    go_loopw [20, 21, 233] (fun s20 s21 s233 wr => ∃ j : Nat, j ≤ k ∧ s20 = .int .i64 (tlo D j) ∧ s21 = .int .i64 (thi D j) ∧ s233 = .int .i64 (j : Int) ∧ Hid (Below Wq.heap.size Wq wr)) (fun _ _ s233 _ => k - (intOf s233).toNat)
    case atStart => exact ⟨0, Nat.zero_le _, rfl, rfl, rfl, HLW⟩
    case round =>
      obtain ⟨j, hj, rfl, rfl, rfl, HBL⟩ := hrel
      by_cases hlt : j < k
      · have hji : (j : Int) < (k : Int) := by omega
        rcases DR.out with h0 | ⟨bd, od, rfl, lbd, hcd⟩
        · omega
        obtain ⟨m0, m1, m2⟩ := hcd j hlt
        replace m0 := (HBL.out.cell (p := ⟨bd, od + j * 3, none⟩) lbd).trans m0
        replace m1 := (HBL.out.cell (p := ⟨bd, od + j * 3 + 1, none⟩) lbd).trans m1
        replace m2 := (HBL.out.cell (p := ⟨bd, od + j * 3 + 2, none⟩) lbd).trans m2
        have lbr : bd < wr.heap.size := Nat.lt_of_lt_of_le lbd HBL.out.size
        have A0 := FJ.out j (by omega)
        have A1 := FJ.out (j + 1) (by omega)
        have SQ := Lib.hid (show tlo D (j + 1) = tlo D j + (D j).lo ∧ thi D (j + 1) = thi D j + (D j).hi from ⟨rfl, rfl⟩)
        rw [SQ.out.1, SQ.out.2] at A1
        have AK := Lib.hid (show tlo D (j + 1) ≤ 1073741824 ∧ tlo D j ≤ 1073741824 from ⟨(FB.out (j + 1) (by omega)), FB.out j hj⟩)
        have ak := AK.out
        rw [SQ.out.1] at ak
        obtain ⟨S0, hS0⟩ : ∃ x, tlo D j = x := ⟨_, rfl⟩
        obtain ⟨T0, hT0⟩ : ∃ x, thi D j = x := ⟨_, rfl⟩
        obtain ⟨dl_, hdl⟩ : ∃ x, (D j).lo = x := ⟨_, rfl⟩
        obtain ⟨dh_, hdh⟩ : ∃ x, (D j).hi = x := ⟨_, rfl⟩
        obtain ⟨da_, hda⟩ : ∃ x, (D j).d = x := ⟨_, rfl⟩
        rw [hda] at m0
        rw [hdl] at m1
        rw [hdh] at m2
        rw [hS0, hT0, hdl, hdh] at A1 SQ
        rw [hS0, hT0] at A0 ⊢
        rw [hS0, hdl] at ak
        clear hS0 hT0 hdl hdh hda hcd
        have kj : ((j + 1 : Nat) : Int) = (j : Int) + 1 := rfl
        rw [kj] at A1
        clear kj
        have HLT := Lib.hid hlt
        clear hlt
        go_upto_region 31 with (fail)
        go_region
        go_wp2_with fail
        go_roundw
        case rel => exact ⟨j + 1, HLT.out, by rw [SQ.out.1], by rw [SQ.out.2], by have := HLT.out; go_num, Lib.hid (HBL.out.trans (((below_alloc _ _).mono HBL.out.size).drew))⟩
        case measure => have := HLT.out; simp only [intOf]; omega
      · have hjk : j = k := by omega
        subst hjk
        obtain ⟨a1, a2, a3, a4, a5⟩ := FK
        have hbl := HBL.out
        have ZR39 := Lib.hid ((hbl.block _ (Array.getElem?_eq_some_iff.1 ZR33.out).1).trans ZR33.out)
        have ZT40 := Lib.hid ((hbl.block _ (Array.getElem?_eq_some_iff.1 ZT34.out).1).trans ZT34.out)
        have ZV41 := Lib.hid ((hbl.block _ (Array.getElem?_eq_some_iff.1 ZV35.out).1).trans ZV35.out)
        have ZP42 := Lib.hid ((hbl.block _ (Array.getElem?_eq_some_iff.1 ZP36.out).1).trans ZP36.out)
        have ZQ43 := Lib.hid ((hbl.block _ (Array.getElem?_eq_some_iff.1 ZQ38.out).1).trans ZQ38.out)
        have LOW44 := Lib.hid (thru hbl LOW37.out)
        clear hbl ZR33 ZT34 ZV35 ZP36 ZQ38 LOW37
        have lP := (Array.getElem?_eq_some_iff.1 ZP42.out).1
        have cP1 : wr.cell? ⟨W9.heap.size, 1, none⟩ = some (.int .i64 u.pl) := cell_of_block ZP42.out 1 (by simp)
        have cP2 : wr.cell? ⟨W9.heap.size, 2, none⟩ = some (.int .i64 (min o.vh u.ph)) := cell_of_block ZP42.out 2 (by simp)
        have lQ := (Array.getElem?_eq_some_iff.1 ZQ43.out).1
        have cQ2 : wr.cell? ⟨w10.heap.size, 2, none⟩ = some (.int .i64 E.hi) := cell_of_block ZQ43.out 2 (by simp)
        have lR := (Array.getElem?_eq_some_iff.1 ZR39.out).1
        have cR16 : wr.cell? ⟨w.heap.size, 16, none⟩ = some (.int .i64 y.sh) := cell_of_block ZR39.out 16 (by simp)
        have cR23 : wr.cell? ⟨w.heap.size, 23, none⟩ = some (.slice aC (i + 1) cC) := cell_of_block ZR39.out 23 (by simp)
        obtain ⟨S0, hS0⟩ : ∃ x, tlo D j = x := ⟨_, rfl⟩
        obtain ⟨T0, hT0⟩ : ∃ x, thi D j = x := ⟨_, rfl⟩
        rw [hS0] at a1 a3 ⊢
        rw [hT0] at a2 a4 a5 ⊢
        clear hS0 hT0
        have z0 : 0 ≤ (mm.g * mm.xh + 1000) * y.sh := Int.mul_nonneg (by omega) (by omega)
        have z1 : (mm.g * mm.xh + 1000) * y.sh ≤ (16777216 * 1000 + 1000) * 1000 := Int.mul_le_mul (by omega) YS.2.2 (by omega) (by omega)
        have r1 : S0 ≤ min o.vh u.ph := by omega
        have r2 : T0 + E.hi ≥ u.pl := by omega
        have r2b : u.pl ≤ T0 + E.hi := by omega
        have r3 : 1000000 * S0 ≤ (mm.g * mm.xh + 1000) * y.sh + 1000000 * ((i : Int) + 1 + 1) := by omega
        have d1x : decide (S0 ≤ min o.vh u.ph) = true := by simp; omega
        have d3x : decide (1000000 * S0 ≤ (mm.g * mm.xh + 1000) * y.sh + 1000000 * ((i : Int) + 1 + 1)) = true := by simp; omega
        go_wp2_with fail
        refine (awake_any _).mono ?_
        rintro e w99 ⟨rfl, hb99⟩
        go_wp2_with fail
        go_ret
        exact ⟨rfl, thru hb99 LOW44.out⟩
  · clear lR cR23
    obtain rfl : nC = 0 := by omega
    clear hn
    obtain ⟨u, hu⟩ : ∃ x, y.vs (wortV o.sl o.sh tl th (4 * o.vl)) FF GG 0 = x := ⟨_, rfl⟩
    have ZVB := Lib.hid (show w8.heap[W6.heap.size]? = some (.cells #[.int .i64 u.sl, .int .i64 u.sh, .int .i64 u.el, .int .i64 u.eh, .int .i64 u.pl, .int .i64 u.ph, .int .i64 u.gl, .int .i64 u.gh, .int .i64 u.ol, .int .i64 u.oh, .int .i64 u.tl, .int .i64 u.th, .int .i64 u.c] 53 (0, 0)) by rw [← hu]; exact ZV21.out)
    unfold wortV at hu
    clear OW
    go_upto_region 21 with (fail)
    have FL := field_last E2.out (j := 0) (fun q hq => FZ.out q hq) f2 f7
    have VB := vatB_t (FZ.out 0 (Nat.le_refl _))
    unfold wortV at FL VB
    rw [hu] at FL VB
    obtain ⟨l1, l2, l3⟩ := FL
    obtain ⟨-, -, ⟨pb0, pb1, pb2⟩, -⟩ := VB
    have HU := Lib.hid hu
    clear hu FZ
    have q0 : 0 ≤ o.sh * y.sl := Int.mul_nonneg (by omega) YS.1
    have q1 : o.sh * y.sl ≤ 1000000000000000 * 1000 := Int.mul_le_mul f8 (by omega) YS.1 (by omega)
    have d30 : decide (u.pl > o.sh * y.sl / 1000) = false := by simp; omega
    have d31 : decide (o.sh * y.sl / 1000 < u.pl) = false := by simp; omega
    have d32 : decide (u.pl > u.ph) = false := by simp; omega
    have d33 : decide (u.ph < u.pl) = false := by simp; omega
    have d34 : decide (u.sl > o.sh) = false := by simp; omega
    have d35 : decide (o.sh < u.sl) = false := by simp; omega
    have lV := (Array.getElem?_eq_some_iff.1 ZVB.out).1
    have cV0 : w8.cell? ⟨W6.heap.size, 0, none⟩ = some (.int .i64 u.sl) := cell_of_block ZVB.out 0 (by simp)
    have cV4 : w8.cell? ⟨W6.heap.size, 4, none⟩ = some (.int .i64 u.pl) := cell_of_block ZVB.out 4 (by simp)
    have cV5 : w8.cell? ⟨W6.heap.size, 5, none⟩ = some (.int .i64 u.ph) := cell_of_block ZVB.out 5 (by simp)
    have lT := (Array.getElem?_eq_some_iff.1 ZT19.out).1
    have cT1 : w8.cell? ⟨w5.heap.size, 1, none⟩ = some (.int .i64 o.sh) := cell_of_block ZT19.out 1 (by simp)
    have cT3 : w8.cell? ⟨w5.heap.size, 3, none⟩ = some (.int .i64 o.vh) := cell_of_block ZT19.out 3 (by simp)
    have lR := (Array.getElem?_eq_some_iff.1 ZR18.out).1
    have cR15 : w8.cell? ⟨w.heap.size, 15, none⟩ = some (.int .i64 y.sl) := cell_of_block ZR18.out 15 (by simp)
    go_upto_region 24 with (fail)
    clear lV cV0 cV4 cV5 lT cT1 cT3 lR cR15
    clear d30 d31 d32 d33 d34 d35 q0 q1
    obtain ⟨Wp, hWp⟩ : ∃ V, (w8).alloc (.cells #[.int .i64 o.vh, .int .i64 u.pl, .int .i64 (min o.vh u.ph)] 58) = V := ⟨_, rfl⟩
    have bWp : Below w8.heap.size w8 Wp := by rw [← hWp]; exact below_alloc _ _
    have zWp_P : Wp.heap[w8.heap.size]? = some (.cells #[.int .i64 o.vh, .int .i64 u.pl, .int .i64 (min o.vh u.ph)] 58 (0, 0)) := by rw [← hWp]; exact alloc_at rfl
    rw [hWp]
    clear hWp
    have ZR23 := Lib.hid ((bWp.block _ (Array.getElem?_eq_some_iff.1 ZR18.out).1).trans ZR18.out)
    have ZT24 := Lib.hid ((bWp.block _ (Array.getElem?_eq_some_iff.1 ZT19.out).1).trans ZT19.out)
    have ZN25 := Lib.hid ((bWp.block _ (Array.getElem?_eq_some_iff.1 ZN20.out).1).trans ZN20.out)
    have ZV26 := Lib.hid ((bWp.block _ (Array.getElem?_eq_some_iff.1 ZVB.out).1).trans ZVB.out)
    have LOW27 := Lib.hid (thru bWp LOW22.out)
    clear bWp ZR18 ZT19 ZN20 ZVB LOW22
    have ZP28 := Lib.hid zWp_P
    clear zWp_P
    have lR := (Array.getElem?_eq_some_iff.1 ZR23.out).1
    have cR24 : Wp.cell? ⟨w.heap.size, 24, none⟩ = some (.slice aL c.n cL) := cell_of_block ZR23.out 24 (by simp)
    have cR25 : Wp.cell? ⟨w.heap.size, 25, none⟩ = some (.slice aV mV cV) := cell_of_block ZR23.out 25 (by simp)
    have cR26 : Wp.cell? ⟨w.heap.size, 26, none⟩ = some (.slice aM k cM) := cell_of_block ZR23.out 26 (by simp)
    have lP := (Array.getElem?_eq_some_iff.1 ZP28.out).1
    have cP0 : Wp.cell? ⟨w8.heap.size, 0, none⟩ = some (.int .i64 o.vh) := cell_of_block ZP28.out 0 (by simp)
    have cP1 : Wp.cell? ⟨w8.heap.size, 1, none⟩ = some (.int .i64 u.pl) := cell_of_block ZP28.out 1 (by simp)
    have cP2 : Wp.cell? ⟨w8.heap.size, 2, none⟩ = some (.int .i64 (min o.vh u.ph)) := cell_of_block ZP28.out 2 (by simp)
    have HPO := Lib.hid (show ∃ x : L4.Pot3, (⟨o.vh, u.pl, min o.vh u.ph⟩ : L4.Pot3) = x from ⟨_, rfl⟩)
    by_cases hR : L4.runErr mV c ⟨o.vh, u.pl, min o.vh u.ph⟩ M k = 0
    rotate_left
    · have RU := L4.run_err aL aV aM mV cL cV k cM c ⟨o.vh, u.pl, min o.vh u.ph⟩ M Wp (by omega) (by omega) (by omega) (HL.out.below LOW27.out) (HV.out.below LOW27.out) (HM.out.below LOW27.out) _ rfl hR
      dsimp only at RU
      obtain ⟨ev, hev⟩ : ∃ x, L4.runErr mV c ⟨o.vh, u.pl, min o.vh u.ph⟩ M k = x := ⟨_, rfl⟩
      rw [hev] at hR RU
      clear hev
      have RU := Lib.hid RU
      have dx : (ev == 0) = false := by simp; exact hR
      have dx2 : (ev != 0) = true := by simp; exact hR
      go_wp2_with fail
      refine RU.out.mono ?_
      rintro e w10 ⟨rfl, hb10⟩
      go_wp2_with fail
      refine (awake_any _).mono ?_
      rintro e w99 ⟨rfl, hb99⟩
      go_wp2_with fail
      go_ret
      exact ⟨rfl, thru hb99 (thru (below_alloc _ _) (thru hb10 LOW27.out))⟩
    have RU := L4.run_ok aL aV aM mV cL cV k cM c ⟨o.vh, u.pl, min o.vh u.ph⟩ M Wp (by omega) (by omega) (HL.out.below LOW27.out) (HV.out.below LOW27.out) (HM.out.below LOW27.out) hR
    obtain ⟨-, -, -, rg, rp, re, rk⟩ := L4.run_zero hR
    have FD := field_drawn rg rk re
    have rkk := rk k (Nat.le_refl _)
    clear hR rg re
    dsimp only at RU FD
    obtain ⟨E, hE⟩ : ∃ x, c.potAt ⟨o.vh, u.pl, min o.vh u.ph⟩ M k = x := ⟨_, rfl⟩
    have FK := FD k (Nat.le_refl _)
    rw [hE] at rkk FK RU
    clear hE
    obtain ⟨D, hD⟩ : ∃ x, c.outAt ⟨o.vh, u.pl, min o.vh u.ph⟩ M = x := ⟨_, rfl⟩
    rw [hD] at FK
    have FJ := Lib.hid (show ∀ j, j ≤ k → 0 ≤ tlo D j ∧ 0 ≤ thi D j ∧ thi D j ≤ (j : Int) * 1073741824 from fun j hj => by have z := FD j hj; rw [hD] at z; exact ⟨z.2.2.1, z.2.2.2.1, z.2.2.2.2⟩)
    have FB := Lib.hid (show ∀ j, j ≤ k → tlo D j ≤ 1073741824 from fun j hj => by have z := FD j hj; rw [hD] at z; have o0 := (rk j hj).1; have o1 := rp.2.2.2; have o2 := rp.2.1; have o3 := rp.2.2.1; dsimp only at o1 o2 o3; omega)
    have HDD := Lib.hid hD
    clear hD FD rk
    have RU := Lib.hid RU
    obtain ⟨rk0, rk1, rk2, rk3⟩ := rkk
    obtain ⟨rp0, rp1, rp2, rp3⟩ := rp
    dsimp only at rp0 rp1 rp2 rp3
    go_wp2_with fail
    refine RU.out.mono ?_
    rintro e w10 ⟨vr, rfl, hown, hb10⟩
    obtain ⟨ar, cr, rfl, hdr⟩ := L4.drawn_of_own hown
    rw [HDD.out] at hdr
    have DR := Lib.hid hdr
    clear hown hdr RU
    clear lR cR24 cR25 cR26 lP cP0 cP1 cP2
    have ZR29 := Lib.hid ((hb10.block _ (Array.getElem?_eq_some_iff.1 ZR23.out).1).trans ZR23.out)
    have ZT30 := Lib.hid ((hb10.block _ (Array.getElem?_eq_some_iff.1 ZT24.out).1).trans ZT24.out)
    have ZN31 := Lib.hid ((hb10.block _ (Array.getElem?_eq_some_iff.1 ZN25.out).1).trans ZN25.out)
    have ZV32 := Lib.hid ((hb10.block _ (Array.getElem?_eq_some_iff.1 ZV26.out).1).trans ZV26.out)
    have ZP33 := Lib.hid ((hb10.block _ (Array.getElem?_eq_some_iff.1 ZP28.out).1).trans ZP28.out)
    have LOW34 := Lib.hid (thru hb10 LOW27.out)
    clear hb10 ZR23 ZT24 ZN25 ZV26 ZP28 LOW27
    go_upto_region 25 with (fail)
    obtain ⟨Wq, hWq⟩ : ∃ V, (w10).alloc (.cells #[.int .i64 E.v, .int .i64 E.lo, .int .i64 E.hi] 58) = V := ⟨_, rfl⟩
    have bWq : Below w10.heap.size w10 Wq := by rw [← hWq]; exact below_alloc _ _
    have zWq_Q : Wq.heap[w10.heap.size]? = some (.cells #[.int .i64 E.v, .int .i64 E.lo, .int .i64 E.hi] 58 (0, 0)) := by rw [← hWq]; exact alloc_at rfl
    rw [hWq]
    clear hWq
    replace DR := Lib.hid (DR.out.below bWq)
    have ZR35 := Lib.hid ((bWq.block _ (Array.getElem?_eq_some_iff.1 ZR29.out).1).trans ZR29.out)
    have ZT36 := Lib.hid ((bWq.block _ (Array.getElem?_eq_some_iff.1 ZT30.out).1).trans ZT30.out)
    have ZN37 := Lib.hid ((bWq.block _ (Array.getElem?_eq_some_iff.1 ZN31.out).1).trans ZN31.out)
    have ZV38 := Lib.hid ((bWq.block _ (Array.getElem?_eq_some_iff.1 ZV32.out).1).trans ZV32.out)
    have ZP39 := Lib.hid ((bWq.block _ (Array.getElem?_eq_some_iff.1 ZP33.out).1).trans ZP33.out)
    have LOW40 := Lib.hid (thru bWq LOW34.out)
    clear bWq ZR29 ZT30 ZN31 ZV32 ZP33 LOW34
    have ZQ41 := Lib.hid zWq_Q
    clear zWq_Q
    have HLW := Lib.hid (Below.refl Wq.heap.size Wq)
    go_wp2_with fail
    go_loopw [20, 21, 233] (fun s20 s21 s233 wr => ∃ j : Nat, j ≤ k ∧ s20 = .int .i64 (tlo D j) ∧ s21 = .int .i64 (thi D j) ∧ s233 = .int .i64 (j : Int) ∧ Hid (Below Wq.heap.size Wq wr)) (fun _ _ s233 _ => k - (intOf s233).toNat)
    case atStart => exact ⟨0, Nat.zero_le _, rfl, rfl, rfl, HLW⟩
    case round =>
      obtain ⟨j, hj, rfl, rfl, rfl, HBL⟩ := hrel
      by_cases hlt : j < k
      · have hji : (j : Int) < (k : Int) := by omega
        rcases DR.out with h0 | ⟨bd, od, rfl, lbd, hcd⟩
        · omega
        obtain ⟨m0, m1, m2⟩ := hcd j hlt
        replace m0 := (HBL.out.cell (p := ⟨bd, od + j * 3, none⟩) lbd).trans m0
        replace m1 := (HBL.out.cell (p := ⟨bd, od + j * 3 + 1, none⟩) lbd).trans m1
        replace m2 := (HBL.out.cell (p := ⟨bd, od + j * 3 + 2, none⟩) lbd).trans m2
        have lbr : bd < wr.heap.size := Nat.lt_of_lt_of_le lbd HBL.out.size
        have A0 := FJ.out j (by omega)
        have A1 := FJ.out (j + 1) (by omega)
        have SQ := Lib.hid (show tlo D (j + 1) = tlo D j + (D j).lo ∧ thi D (j + 1) = thi D j + (D j).hi from ⟨rfl, rfl⟩)
        rw [SQ.out.1, SQ.out.2] at A1
        have AK := Lib.hid (show tlo D (j + 1) ≤ 1073741824 ∧ tlo D j ≤ 1073741824 from ⟨(FB.out (j + 1) (by omega)), FB.out j hj⟩)
        have ak := AK.out
        rw [SQ.out.1] at ak
        obtain ⟨S0, hS0⟩ : ∃ x, tlo D j = x := ⟨_, rfl⟩
        obtain ⟨T0, hT0⟩ : ∃ x, thi D j = x := ⟨_, rfl⟩
        obtain ⟨dl_, hdl⟩ : ∃ x, (D j).lo = x := ⟨_, rfl⟩
        obtain ⟨dh_, hdh⟩ : ∃ x, (D j).hi = x := ⟨_, rfl⟩
        obtain ⟨da_, hda⟩ : ∃ x, (D j).d = x := ⟨_, rfl⟩
        rw [hda] at m0
        rw [hdl] at m1
        rw [hdh] at m2
        rw [hS0, hT0, hdl, hdh] at A1 SQ
        rw [hS0, hT0] at A0 ⊢
        rw [hS0, hdl] at ak
        clear hS0 hT0 hdl hdh hda hcd
        have kj : ((j + 1 : Nat) : Int) = (j : Int) + 1 := rfl
        rw [kj] at A1
        clear kj
        have HLT := Lib.hid hlt
        clear hlt
        go_upto_region 31 with (fail)
        go_region
        go_wp2_with fail
        go_roundw
        case rel => exact ⟨j + 1, HLT.out, by rw [SQ.out.1], by rw [SQ.out.2], by have := HLT.out; go_num, Lib.hid (HBL.out.trans (((below_alloc _ _).mono HBL.out.size).drew))⟩
        case measure => have := HLT.out; simp only [intOf]; omega
      · have hjk : j = k := by omega
        subst hjk
        obtain ⟨a1, a2, a3, a4, a5⟩ := FK
        have hbl := HBL.out
        have ZR42 := Lib.hid ((hbl.block _ (Array.getElem?_eq_some_iff.1 ZR35.out).1).trans ZR35.out)
        have ZT43 := Lib.hid ((hbl.block _ (Array.getElem?_eq_some_iff.1 ZT36.out).1).trans ZT36.out)
        have ZN44 := Lib.hid ((hbl.block _ (Array.getElem?_eq_some_iff.1 ZN37.out).1).trans ZN37.out)
        have ZV45 := Lib.hid ((hbl.block _ (Array.getElem?_eq_some_iff.1 ZV38.out).1).trans ZV38.out)
        have ZP46 := Lib.hid ((hbl.block _ (Array.getElem?_eq_some_iff.1 ZP39.out).1).trans ZP39.out)
        have ZQ47 := Lib.hid ((hbl.block _ (Array.getElem?_eq_some_iff.1 ZQ41.out).1).trans ZQ41.out)
        have LOW48 := Lib.hid (thru hbl LOW40.out)
        clear hbl ZR35 ZT36 ZN37 ZV38 ZP39 ZQ41 LOW40
        have lP := (Array.getElem?_eq_some_iff.1 ZP46.out).1
        have cP1 : wr.cell? ⟨w8.heap.size, 1, none⟩ = some (.int .i64 u.pl) := cell_of_block ZP46.out 1 (by simp)
        have cP2 : wr.cell? ⟨w8.heap.size, 2, none⟩ = some (.int .i64 (min o.vh u.ph)) := cell_of_block ZP46.out 2 (by simp)
        have lQ := (Array.getElem?_eq_some_iff.1 ZQ47.out).1
        have cQ2 : wr.cell? ⟨w10.heap.size, 2, none⟩ = some (.int .i64 E.hi) := cell_of_block ZQ47.out 2 (by simp)
        have lR := (Array.getElem?_eq_some_iff.1 ZR42.out).1
        have cR16 : wr.cell? ⟨w.heap.size, 16, none⟩ = some (.int .i64 y.sh) := cell_of_block ZR42.out 16 (by simp)
        have cR23 : wr.cell? ⟨w.heap.size, 23, none⟩ = some (.slice aC 0 cC) := cell_of_block ZR42.out 23 (by simp)
        obtain ⟨S0, hS0⟩ : ∃ x, tlo D j = x := ⟨_, rfl⟩
        obtain ⟨T0, hT0⟩ : ∃ x, thi D j = x := ⟨_, rfl⟩
        rw [hS0] at a1 a3 ⊢
        rw [hT0] at a2 a4 a5 ⊢
        clear hS0 hT0
        have z0 : 0 ≤ (mm.g * mm.xh + 1000) * y.sh := Int.mul_nonneg (by omega) (by omega)
        have z1 : (mm.g * mm.xh + 1000) * y.sh ≤ (16777216 * 1000 + 1000) * 1000 := Int.mul_le_mul (by omega) YS.2.2 (by omega) (by omega)
        have r1 : S0 ≤ min o.vh u.ph := by omega
        have r2 : T0 + E.hi ≥ u.pl := by omega
        have r2b : u.pl ≤ T0 + E.hi := by omega
        have r3 : 1000000 * S0 ≤ (mm.g * mm.xh + 1000) * y.sh + 1000000 * (0 + 1) := by omega
        have d1x : decide (S0 ≤ min o.vh u.ph) = true := by simp; omega
        have d3x : decide (1000000 * S0 ≤ (mm.g * mm.xh + 1000) * y.sh + 1000000 * (0 + 1)) = true := by simp; omega
        go_wp2_with fail
        refine (awake_any _).mono ?_
        rintro e w99 ⟨rfl, hb99⟩
        go_wp2_with fail
        go_ret
        exact ⟨rfl, thru hb99 LOW48.out⟩
end Go.Proofs.Ytfefmgadfklgmaa
