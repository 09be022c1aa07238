/- The vats behind hours; contract of the iterator of run. No conditions beyond each theorem's own. -/
import Derived.Test.YtfefmgadfklgmaaBl
set_option linter.unusedVariables false
set_option linter.unusedSimpArgs false
set_option linter.unusedSectionVars false
set_option linter.constructorNameAsVariable false
namespace Go.Proofs.Ytfefmgadfklgmaa
open Go.RowKit Go.Shelf

attribute [local go_sem] Oper.semAt_some gw_cell gw_frozen gw_size

/-- the vat behind j hours -/
def Yst.vs (y : Yst) (v : Vat) (F G : Nat → Int) : Nat → Vat
  | 0 => v
  | j + 1 => y.hour (y.vs v F G j) (F j) (G j)
/-- the blocks that the iterator reads -/
structure VKept (b1 b2 b3 b4 : Nat) (W W' : World) : Prop where
  size : W.heap.size ≤ W'.heap.size
  k1 : W'.heap[b1]? = W.heap[b1]?
  k2 : W'.heap[b2]? = W.heap[b2]?
  k3 : W'.heap[b3]? = W.heap[b3]?
  k4 : W'.heap[b4]? = W.heap[b4]?
/-- how the iterator ends -/
def VEnds (k m : Nat) (J : Nat → World → Prop) (e : Ending) (W : World) : Prop :=
  (m = k ∧ (∃ v, e = .returned v) ∧ J k W) ∨ (m < k ∧ e = .panicked [{ v := .iface 117 (.agg #[]), recovered := false }] ∧ J m W)
/-- what the iterator reads -/
structure VReads (y : Yst) (aC : Option Addr) (k cC : Nat) (by_ byp bv bc : Nat) (v : Vat) (W : World) : Prop where
  y : W.heap[by_]? = some (.cells #[.slice y.aT y.nT y.cT, .slice y.aR y.nR y.cR, .int .i64 y.sl, .int .i64 y.sh, .int .i64 y.gl, .int .i64 y.gh, .int .i64 y.hl, .int .i64 y.hh] 32 (0, 0))
  p : W.heap[byp]? = some (.cells #[.pointer (some ⟨by_, 0, none⟩)] 97 (0, 0))
  v : W.heap[bv]? = some (.cells #[.int .i64 v.sl, .int .i64 v.sh, .int .i64 v.el, .int .i64 v.eh, .int .i64 v.pl, .int .i64 v.ph, .int .i64 v.gl, .int .i64 v.gh, .int .i64 v.ol, .int .i64 v.oh, .int .i64 v.tl, .int .i64 v.th, .int .i64 v.c] 53 (0, 0))
  c : W.heap[bc]? = some (.cells #[.slice aC k cC] 30 (0, 0))
theorem VReads.kept {y : Yst} {aC : Option Addr} {k cC by_ byp bv bc : Nat} {v : Vat} {W W' : World} (h : VReads y aC k cC by_ byp bv bc v W) (g : VKept by_ byp bv bc W W') : VReads y aC k cC by_ byp bv bc v W' :=
  ⟨g.k1.trans h.y, g.k2.trans h.p, g.k3.trans h.v, g.k4.trans h.c⟩

set_option maxRecDepth 100000 in
set_option maxHeartbeats 8000000 in
theorem run1_in (n l : Nat) (aC : Option Addr) (k cC : Nat) (F G : Nat → Int) (y : Yst) (v : Vat) (by_ byp bv bc : Nat) (m : Nat) (w : World) (hI : y.In w) (hf : y.Fits) (hB : ystB y = true) (hv : vatB v = true) (hC : SpansAt w aC k F G)
    (hCB : ∀ i, i < k → 0 ≤ F i ∧ F i ≤ G i ∧ G i ≤ 150000) (hk : k ≤ 200) (hmk : m ≤ k) (hgo : ∀ j, j < m → vatB (y.vs v F G (j + 1)) = true) (hst : m < k → vatB (y.vs v F G (m + 1)) = false)
    (hne : by_ ≠ bv ∧ byp ≠ bv ∧ bc ≠ bv) (hlo : w.heap.size ≤ bv)
    (J : Nat → World → Prop) (hJ : ∀ j V V', J j V → V.grownBy V' (some bv) → J j V') (hLow : ∀ j V, J j V → Below w.heap.size w V)
    (hY : ∀ j V, J j V → j < m → VReads y aC k cC by_ byp bv bc (y.vs v F G (j + 1)) V → YieldAt Fence.wide (n - 1) Try.prog l #[.int .i64 j, (y.vs v F G (j + 1)).val] V fun e V' => e = .returned (.bool true) ∧ J (j + 1) V' ∧ VKept by_ byp bv bc V V')
    (W : World) (hR : VReads y aC k cC by_ byp bv bc v W) (h0 : J 0 W) :
    CallsIn Fence.wide n Try.prog 50 #[.func (.yield l) #[] #[], .pointer (some ⟨bc, 0, none⟩), .pointer (some ⟨byp, 0, none⟩), .pointer (some ⟨bv, 0, none⟩)] W (VEnds k m J) := by
  have HCB := Lib.hid hCB; clear hCB
  have HGO := Lib.hid hgo; clear hgo
  have HST := Lib.hid hst; clear hst
  have HJ := Lib.hid hJ; clear hJ
  have HLO := Lib.hid hLow; clear hLow
  have HY := Lib.hid hY; clear hY
  have HI := Lib.hid hI; clear hI
  have HC := Lib.hid hC; clear hC
  have HB := Lib.hid hB; clear hB
  have HF := Lib.hid hf; clear hf
  have OKV : ∀ j, j ≤ m → vatB (y.vs v F G j) = true := fun j hj => by
    cases j with
    | zero => exact hv
    | succ i => exact HGO.out i (by omega)
  have HOK := Lib.hid OKV; clear OKV
  obtain ⟨ne1, ne2, ne3⟩ := hne
  have cc := cell_of_block hR.c 0 (by simp)
  simp at cc
  have lcc := (Array.getElem?_eq_some_iff.1 hR.c).1
  have HR := Lib.hid hR; clear hR
  refine callsIn_of_wp Try.func50 rfl trivial ?_ rfl
  simp only [Try.ntmps50, List.size_toArray, List.length_cons, List.length_nil, Nat.reduceAdd, Nat.reduceSub, Array.replicate_succ, Array.replicate_zero, List.push_toArray, List.append_toArray, List.nil_append, List.cons_append]
  gi_wp2
  gi_loopw [9] (fun i wr => ∃ j : Nat, j ≤ m ∧ i = .int .i64 j ∧ J j wr ∧ VReads y aC k cC by_ byp bv bc (y.vs v F G j) wr) (fun i _ => k - (intOf i).toNat)
  case atStart => exact ⟨0, Nat.zero_le _, rfl, h0, HR.out⟩
  case round =>
    obtain ⟨j, hj, rfl, hJj, hRj⟩ := hrel
    have HJj := Lib.hid hJj; clear hJj
    have HRj := Lib.hid hRj; clear hRj
    have LOW := Lib.hid (HLO.out _ _ HJj.out)
    by_cases hlt : j < k
    · obtain ⟨b, off, ea, lb, hc⟩ := HC.out.resolve_left (by omega)
      obtain ⟨q0, q1⟩ := hc j hlt
      have q0 := below_cell LOW.out q0
      have q1 := below_cell LOW.out q1
      have lbr := Nat.lt_of_lt_of_le lb LOW.out.size
      clear hc
      rw [ea]
      have CB := HCB.out j hlt
      have VSS := Lib.hid (show y.vs v F G (j + 1) = y.hour (y.vs v F G j) (F j) (G j) from rfl)
      have HO := fun V (hb : Below wr.heap.size wr V) => hour_any by_ y (y.vs v F G j) (F j) (G j) V ⟨(hb.block _ (Array.getElem?_eq_some_iff.1 HRj.out.y).1).trans HRj.out.y, (HI.out.below LOW.out).below hb⟩ HF.out HB.out (HOK.out j hj) CB.1 CB.2.1 CB.2.2
      rw [← VSS.out] at HO
      obtain ⟨vj, hvj⟩ : ∃ vj, y.vs v F G j = vj := ⟨_, rfl⟩
      obtain ⟨vn, hvn⟩ : ∃ vn, y.vs v F G (j + 1) = vn := ⟨_, rfl⟩
      rw [hvj, hvn] at HO
      unfold Vat.val at HO
      have HHO := Lib.hid HO; clear HO VSS CB
      have RJ := Lib.hid (hvj ▸ HRj.out)
      obtain ⟨xf, hxf⟩ : ∃ xf, F j = xf := ⟨_, rfl⟩
      obtain ⟨xg, hxg⟩ : ∃ xg, G j = xg := ⟨_, rfl⟩
      rw [hxf, hxg] at HHO
      rw [hxf] at q0
      rw [hxg] at q1
      clear hxf hxg hvj
      have p0 : wr.cell? ⟨byp, 0, none⟩ = some (.pointer (some ⟨by_, 0, none⟩)) := cell_of_block RJ.out.p 0 (by simp)
      have v0 : wr.cell? ⟨bv, 0, none⟩ = some (.int .i64 vj.sl) := cell_of_block RJ.out.v 0 (by simp)
      have v1 : wr.cell? ⟨bv, 1, none⟩ = some (.int .i64 vj.sh) := cell_of_block RJ.out.v 1 (by simp)
      have v2 : wr.cell? ⟨bv, 2, none⟩ = some (.int .i64 vj.el) := cell_of_block RJ.out.v 2 (by simp)
      have v3 : wr.cell? ⟨bv, 3, none⟩ = some (.int .i64 vj.eh) := cell_of_block RJ.out.v 3 (by simp)
      have v4 : wr.cell? ⟨bv, 4, none⟩ = some (.int .i64 vj.pl) := cell_of_block RJ.out.v 4 (by simp)
      have v5 : wr.cell? ⟨bv, 5, none⟩ = some (.int .i64 vj.ph) := cell_of_block RJ.out.v 5 (by simp)
      have v6 : wr.cell? ⟨bv, 6, none⟩ = some (.int .i64 vj.gl) := cell_of_block RJ.out.v 6 (by simp)
      have v7 : wr.cell? ⟨bv, 7, none⟩ = some (.int .i64 vj.gh) := cell_of_block RJ.out.v 7 (by simp)
      have v8 : wr.cell? ⟨bv, 8, none⟩ = some (.int .i64 vj.ol) := cell_of_block RJ.out.v 8 (by simp)
      have v9 : wr.cell? ⟨bv, 9, none⟩ = some (.int .i64 vj.oh) := cell_of_block RJ.out.v 9 (by simp)
      have v10 : wr.cell? ⟨bv, 10, none⟩ = some (.int .i64 vj.tl) := cell_of_block RJ.out.v 10 (by simp)
      have v11 : wr.cell? ⟨bv, 11, none⟩ = some (.int .i64 vj.th) := cell_of_block RJ.out.v 11 (by simp)
      have v12 : wr.cell? ⟨bv, 12, none⟩ = some (.int .i64 vj.c) := cell_of_block RJ.out.v 12 (by simp)
      have lp := (Array.getElem?_eq_some_iff.1 RJ.out.p).1
      have lv := (Array.getElem?_eq_some_iff.1 RJ.out.v).1
      gi_wp2_with fail
      refine ⟨trivial, (fun h => (by cases h)), ?_⟩
      have BA := Lib.hid (below_alloc wr (.cells #[.int .i64 xf, .int .i64 xg] 23))
      refine (callsIn_wide.2 (HHO.out _ BA.out)).mono ?_
      rintro e w1 ⟨rfl, hb1⟩
      have B1 := Lib.hid (thru hb1 BA.out); clear hb1
      have x0 := below_cell B1.out v0
      have x1 := below_cell B1.out v1
      have x2 := below_cell B1.out v2
      have x3 := below_cell B1.out v3
      have x4 := below_cell B1.out v4
      have x5 := below_cell B1.out v5
      have x6 := below_cell B1.out v6
      have x7 := below_cell B1.out v7
      have x8 := below_cell B1.out v8
      have x9 := below_cell B1.out v9
      have x10 := below_cell B1.out v10
      have x11 := below_cell B1.out v11
      have x12 := below_cell B1.out v12
      have f0 : w1.frozen? ⟨bv, 0, none⟩ = false := (B1.out.frozen (p := ⟨bv, 0, none⟩) lv).trans (frozen_of_block RJ.out.v 0)
      have f1 : w1.frozen? ⟨bv, 1, none⟩ = false := (B1.out.frozen (p := ⟨bv, 1, none⟩) lv).trans (frozen_of_block RJ.out.v 1)
      have f2 : w1.frozen? ⟨bv, 2, none⟩ = false := (B1.out.frozen (p := ⟨bv, 2, none⟩) lv).trans (frozen_of_block RJ.out.v 2)
      have f3 : w1.frozen? ⟨bv, 3, none⟩ = false := (B1.out.frozen (p := ⟨bv, 3, none⟩) lv).trans (frozen_of_block RJ.out.v 3)
      have f4 : w1.frozen? ⟨bv, 4, none⟩ = false := (B1.out.frozen (p := ⟨bv, 4, none⟩) lv).trans (frozen_of_block RJ.out.v 4)
      have f5 : w1.frozen? ⟨bv, 5, none⟩ = false := (B1.out.frozen (p := ⟨bv, 5, none⟩) lv).trans (frozen_of_block RJ.out.v 5)
      have f6 : w1.frozen? ⟨bv, 6, none⟩ = false := (B1.out.frozen (p := ⟨bv, 6, none⟩) lv).trans (frozen_of_block RJ.out.v 6)
      have f7 : w1.frozen? ⟨bv, 7, none⟩ = false := (B1.out.frozen (p := ⟨bv, 7, none⟩) lv).trans (frozen_of_block RJ.out.v 7)
      have f8 : w1.frozen? ⟨bv, 8, none⟩ = false := (B1.out.frozen (p := ⟨bv, 8, none⟩) lv).trans (frozen_of_block RJ.out.v 8)
      have f9 : w1.frozen? ⟨bv, 9, none⟩ = false := (B1.out.frozen (p := ⟨bv, 9, none⟩) lv).trans (frozen_of_block RJ.out.v 9)
      have f10 : w1.frozen? ⟨bv, 10, none⟩ = false := (B1.out.frozen (p := ⟨bv, 10, none⟩) lv).trans (frozen_of_block RJ.out.v 10)
      have f11 : w1.frozen? ⟨bv, 11, none⟩ = false := (B1.out.frozen (p := ⟨bv, 11, none⟩) lv).trans (frozen_of_block RJ.out.v 11)
      have f12 : w1.frozen? ⟨bv, 12, none⟩ = false := (B1.out.frozen (p := ⟨bv, 12, none⟩) lv).trans (frozen_of_block RJ.out.v 12)
      have lv1 := Nat.lt_of_lt_of_le lv B1.out.size
      clear p0 lp v0 v1 v2 v3 v4 v5 v6 v7 v8 v9 v10 v11 v12
      gi_wp2_with fail
      obtain ⟨V2, hV2⟩ : ∃ V2, ((((((((((((w1.setCell ⟨bv, 0, none⟩ (.int .i64 vn.sl)).setCell ⟨bv, 1, none⟩ (.int .i64 vn.sh)).setCell ⟨bv, 2, none⟩ (.int .i64 vn.el)).setCell ⟨bv, 3, none⟩ (.int .i64 vn.eh)).setCell ⟨bv, 4, none⟩ (.int .i64 vn.pl)).setCell ⟨bv, 5, none⟩ (.int .i64 vn.ph)).setCell ⟨bv, 6, none⟩ (.int .i64 vn.gl)).setCell ⟨bv, 7, none⟩ (.int .i64 vn.gh)).setCell ⟨bv, 8, none⟩ (.int .i64 vn.ol)).setCell ⟨bv, 9, none⟩ (.int .i64 vn.oh)).setCell ⟨bv, 10, none⟩ (.int .i64 vn.tl)).setCell ⟨bv, 11, none⟩ (.int .i64 vn.th)).setCell ⟨bv, 12, none⟩ (.int .i64 vn.c) = V2 := ⟨_, rfl⟩
      have hg2 : w1.grownBy V2 (some bv) := by rw [← hV2]; exact setAll_grown bv [.int .i64 vn.sl, .int .i64 vn.sh, .int .i64 vn.el, .int .i64 vn.eh, .int .i64 vn.pl, .int .i64 vn.ph, .int .i64 vn.gl, .int .i64 vn.gh, .int .i64 vn.ol, .int .i64 vn.oh, .int .i64 vn.tl, .int .i64 vn.th, .int .i64 vn.c] 0 w1
      have hz2 : V2.heap[bv]? = some (.cells #[.int .i64 vn.sl, .int .i64 vn.sh, .int .i64 vn.el, .int .i64 vn.eh, .int .i64 vn.pl, .int .i64 vn.ph, .int .i64 vn.gl, .int .i64 vn.gh, .int .i64 vn.ol, .int .i64 vn.oh, .int .i64 vn.tl, .int .i64 vn.th, .int .i64 vn.c] 53 (0, 0)) := by rw [← hV2]; exact set_all [.int .i64 vn.sl, .int .i64 vn.sh, .int .i64 vn.el, .int .i64 vn.eh, .int .i64 vn.pl, .int .i64 vn.ph, .int .i64 vn.gl, .int .i64 vn.gh, .int .i64 vn.ol, .int .i64 vn.oh, .int .i64 vn.tl, .int .i64 vn.th, .int .i64 vn.c] ((B1.out.block _ lv).trans RJ.out.v) rfl
      rw [hV2]
      clear hV2 x0 x1 x2 x3 x4 x5 x6 x7 x8 x9 x10 x11 x12 f0 f1 f2 f3 f4 f5 f6 f7 f8 f9 f10 f11 f12 lv1
      have hgr : wr.grownBy V2 (some bv) := grownBy_trans (grownBy_of_below B1.out _) hg2
      have R2 : VReads y aC k cC by_ byp bv bc vn V2 := ⟨(hgr.block _ (Array.getElem?_eq_some_iff.1 RJ.out.y).1 (by simpa using ne1)).trans RJ.out.y, (hgr.block _ (Array.getElem?_eq_some_iff.1 RJ.out.p).1 (by simpa using ne2)).trans RJ.out.p, hz2, (hgr.block _ (Array.getElem?_eq_some_iff.1 RJ.out.c).1 (by simpa using ne3)).trans RJ.out.c⟩
      have J2 := Lib.hid (HJ.out j wr V2 HJj.out hgr)
      have HR2 := Lib.hid R2
      clear R2 hz2 hgr hg2
      refine ⟨trivial, (fun h => (by cases h)), ?_⟩
      by_cases hjm : j < m
      · have OKN := Lib.hid (hvn ▸ HGO.out j hjm)
        refine (callsIn_wide.2 (isVat_b vn V2 OKN.out)).mono ?_
        rintro e w3 ⟨rfl, hb3⟩
        have B3 := Lib.hid hb3; clear hb3
        have J3 := Lib.hid (HJ.out j V2 w3 J2.out (grownBy_of_below B3.out _))
        have R3 := Lib.hid (HR2.out.kept ⟨B3.out.size, B3.out.block _ (Array.getElem?_eq_some_iff.1 HR2.out.y).1, B3.out.block _ (Array.getElem?_eq_some_iff.1 HR2.out.p).1, B3.out.block _ (Array.getElem?_eq_some_iff.1 HR2.out.v).1, B3.out.block _ (Array.getElem?_eq_some_iff.1 HR2.out.c).1⟩)
        obtain ⟨fn, tmps, assign, body, hy, hR2⟩ := HY.out j w3 J3.out hjm (hvn.symm ▸ R3.out)
        rw [hvn] at hy
        unfold Vat.val at hy
        have HRR := Lib.hid hR2; clear hR2
        have v0 : w3.cell? ⟨bv, 0, none⟩ = some (.int .i64 vn.sl) := cell_of_block R3.out.v 0 (by simp)
        have v1 : w3.cell? ⟨bv, 1, none⟩ = some (.int .i64 vn.sh) := cell_of_block R3.out.v 1 (by simp)
        have v2 : w3.cell? ⟨bv, 2, none⟩ = some (.int .i64 vn.el) := cell_of_block R3.out.v 2 (by simp)
        have v3 : w3.cell? ⟨bv, 3, none⟩ = some (.int .i64 vn.eh) := cell_of_block R3.out.v 3 (by simp)
        have v4 : w3.cell? ⟨bv, 4, none⟩ = some (.int .i64 vn.pl) := cell_of_block R3.out.v 4 (by simp)
        have v5 : w3.cell? ⟨bv, 5, none⟩ = some (.int .i64 vn.ph) := cell_of_block R3.out.v 5 (by simp)
        have v6 : w3.cell? ⟨bv, 6, none⟩ = some (.int .i64 vn.gl) := cell_of_block R3.out.v 6 (by simp)
        have v7 : w3.cell? ⟨bv, 7, none⟩ = some (.int .i64 vn.gh) := cell_of_block R3.out.v 7 (by simp)
        have v8 : w3.cell? ⟨bv, 8, none⟩ = some (.int .i64 vn.ol) := cell_of_block R3.out.v 8 (by simp)
        have v9 : w3.cell? ⟨bv, 9, none⟩ = some (.int .i64 vn.oh) := cell_of_block R3.out.v 9 (by simp)
        have v10 : w3.cell? ⟨bv, 10, none⟩ = some (.int .i64 vn.tl) := cell_of_block R3.out.v 10 (by simp)
        have v11 : w3.cell? ⟨bv, 11, none⟩ = some (.int .i64 vn.th) := cell_of_block R3.out.v 11 (by simp)
        have v12 : w3.cell? ⟨bv, 12, none⟩ = some (.int .i64 vn.c) := cell_of_block R3.out.v 12 (by simp)
        gi_wp2_with fail
        refine ⟨(fun h => (by cases h)), HRR.out.mono ?_⟩
        rintro e W3 ⟨rfl, hJ3, hk3⟩
        have HJ3 := Lib.hid hJ3; clear hJ3
        have Hk3 := Lib.hid hk3; clear hk3
        clear v0 v1 v2 v3 v4 v5 v6 v7 v8 v9 v10 v11 v12
        gi_wp2
        go_roundw
        case rel => exact ⟨j + 1, hjm, by go_num, HJ3.out, by rw [← ea, hvn]; exact R3.out.kept Hk3.out⟩
        case measure => simp [intOf]; omega
      · obtain rfl : j = m := by omega
        have OKN := Lib.hid (hvn ▸ HST.out hlt)
        refine (callsIn_wide.2 (isVat_b vn V2 OKN.out)).mono ?_
        rintro e w3 ⟨rfl, hb3⟩
        have B3 := Lib.hid hb3; clear hb3
        have J3 := Lib.hid (HJ.out j V2 w3 J2.out (grownBy_of_below B3.out _))
        gi_wp2_with fail

        exact ⟨rfl, .inr ⟨hlt, rfl, J3.out⟩⟩
    · obtain rfl : j = k := by omega
      obtain rfl : j = m := by omega
      gi_wp2
      go_end0
      exact .inl ⟨rfl, ⟨_, rfl⟩, HJj.out⟩
end Go.Proofs.Ytfefmgadfklgmaa
