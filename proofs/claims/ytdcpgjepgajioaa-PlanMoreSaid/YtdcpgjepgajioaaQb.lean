/- Contract of PlanMore: true. No conditions beyond each theorem's own. -/
import Derived.Test.YtdcpgjepgajioaaQn
import Derived.Test.YtdcpgjepgajioaaCe
import Derived.Test.YtdcpgjepgajioaaAe
set_option linter.unusedVariables false
set_option linter.unusedSimpArgs false
set_option linter.unusedSectionVars false
set_option linter.constructorNameAsVariable false
namespace Go.Proofs.Ytdcpgjepgajioaa
open Go.RowKit

attribute [local go_sem] gw_cell gw_frozen gw_size
attribute [local go_sem ↓] run_minI

theorem run_maxI {Q : Program} (w : World) (ts : Array TypeId) (t : TypeId) (k k' : IntKind) (x y : Int) : (Builtin.max_ ts t #[.int k x, .int k' y]).run Q w = .ok (.int k (max x y)) w := by rw [run_maxZ, maxZ_eq]
attribute [local go_sem ↓] run_maxI
theorem infoLL : (Try.prog.info? 32).map (fun i => (i.zero, i.size, i.bytes)) = some (some (.slice none 0 0), 1, 24) := by kernel_rfl
/-- a row of numbers that may be written -/
def NumW (V : World) (base : Nat) (a : Option Addr) (n : Nat) (L : Nat → Int) : Prop := n = 0 ∨ ∃ g, a = some ⟨g, 0, none⟩ ∧ base ≤ g ∧ g < V.heap.size ∧ (∀ k, V.frozen? ⟨g, k, none⟩ = false) ∧ ∀ j, j < n → V.cell? ⟨g, j, none⟩ = some (.int .i64 (L j))
theorem NumW.of_own {w : World} {base n c : Nat} {a : Option Addr} {L : Nat → Int} (h : w.ownsRow base 3 1 (.slice a n c) n (intsV n L)) : NumW w base a n L := by
  rcases h.2 with ⟨_, h0⟩ | ⟨g, cap, cur, hv, q1, q2, _⟩
  · exact .inl h0
  · simp only [Value.slice.injEq] at hv
    obtain ⟨rfl, _, rfl⟩ := hv
    refine .inr ⟨g, rfl, q1, (Array.getElem?_eq_some_iff.1 q2).1, fun k => frozen_of_block q2 k, fun j hj => ?_⟩
    have := h.cells (g := g) rfl j (.int .i64 (L j)) (by simp [intsV, hj])
    rw [addr_add, Nat.zero_add] at this
    exact this
theorem NumW.ints {w : World} {base n : Nat} {a : Option Addr} {L : Nat → Int} (h : NumW w base a n L) : IntsAt w a n L := by
  rcases h with h | ⟨g, e, _, hg, _, hc⟩
  · exact .inl h
  · exact .inr ⟨g, 0, e, hg, fun i hi => by rw [Nat.zero_add]; exact hc i hi⟩
theorem NumW.rowB {w : World} {base base' n : Nat} {a : Option Addr} {R L : Nat → Int} {ob : Option Nat} (h : NumW w base a n R) (hb : base' ≤ base) (ho : ∀ b, ob = some b → b < base) (hl : ∀ q, q < n → R q = L q) : RowB w base' ob a n L := by
  rcases h with h | ⟨g, e, h0, hg, _, hc⟩
  · exact .inl h
  · exact .inr ⟨g, 0, e, Nat.le_trans hb h0, hg, fun e2 => by have := ho g e2.symm; omega, fun i hi => by rw [Nat.zero_add, ← hl i hi]; exact hc i hi⟩
theorem NumW.kept {w w' : World} {base n : Nat} {a : Option Addr} {L : Nat → Int} {r : Option Nat} (h : NumW w base a n L) (g : w.grownBy w' r) (hr : ∀ b, r = some b → b < base) : NumW w' base a n L := by
  rcases h with h | ⟨b, e, h1, h2, h3, h4⟩
  · exact .inl h
  · have hb := g.block b h2 (fun e => by have := hr b e.symm; omega)
    exact .inr ⟨b, e, h1, Nat.lt_of_lt_of_le h2 g.size, fun k => (World.frozen?_of_block (a := ⟨b, k, none⟩) hb).trans (h3 k), fun j hj => (World.cell?_of_block (a := ⟨b, j, none⟩) hb).trans (h4 j hj)⟩
theorem NumW.set {w : World} {base g n k : Nat} {L : Nat → Int} {v : Int} (h : NumW w base (some ⟨g, 0, none⟩) n L) (hk : k < n) : NumW (w.setCell ⟨g, k, none⟩ (.int .i64 v)) base (some ⟨g, 0, none⟩) n (fun j => if j = k then v else L j) := by
  rcases h with h | ⟨b, e, h1, h2, h3, h4⟩
  · omega
  · cases e
    refine .inr ⟨g, rfl, h1, Nat.lt_of_lt_of_le h2 (grownBy_set w g k _).size, fun q => (World.frozen?_setCell _ _ _ _).trans (h3 q), fun j hj => ?_⟩
    show _ = some (Value.int .i64 (if j = k then v else L j))
    by_cases e : j = k
    · subst e
      rw [World.cell?_setCell_same' _ _ _ (by rw [h4 j hj]; rfl), if_pos rfl]
    · rw [World.cell?_setCell_other _ _ _ _ (by simp <;> omega), h4 j hj, if_neg e]

set_option maxRecDepth 100000 in
set_option maxHeartbeats 16000000 in
theorem planMore_law (o : Otl) (y : Lyg) (aL : Option Addr) (m cL : Nat) (L : Nat → Int) (path : Int) (aB : Option Addr) (nB cB : Nat) (B : Nat → Int) (le : Int) (w : World) (hO : o.In w) (hfo : o.Fits) (hY : y.In w) (hfy : y.Fits) (hL : IntsAt w aL m L) (hm : m ≤ 9223372036854775807) (hB : NumsAt .u16 w aB nB B) (hnB : nB ≤ 9223372036854775807) (hBr : ∀ i, i < nB → 0 ≤ B i ∧ B i ≤ 65535) (hle : 0 ≤ le ∧ le ≤ 65535) :
    Calls Try.prog 6 #[o.val, y.val, .slice aL m cL, .int .i64 path, .slice aB nB cB, .int .u16 le] w fun e w' => e = .returned (.bool true) ∧ Below w.heap.size w w' := by
  unfold Otl.val Lyg.val
  obtain ⟨W1, hW1⟩ : ∃ W1, (w.alloc (.cells #[.slice o.aS o.nS o.cS, .int .i64 o.kl, .int .i64 o.kh, .slice o.aA o.nA o.cA, .slice o.aP o.nP o.cP] 27)).alloc (.cells #[.slice y.aR y.nR y.cR, .slice y.aM y.nM y.cM, .int .i64 y.lot, .int .i64 y.room] 29) = W1 := ⟨_, rfl⟩
  have hBc : Below w.heap.size w W1 := by rw [← hW1]; exact (below_alloc _ _).alloc (by simp) _
  have zc0 : W1.heap[w.heap.size]? = some (.cells #[.slice o.aS o.nS o.cS, .int .i64 o.kl, .int .i64 o.kh, .slice o.aA o.nA o.cA, .slice o.aP o.nP o.cP] 27 (0, 0)) := by rw [← hW1]; exact alloc_keep (alloc_at rfl)
  have zc1 : W1.heap[w.heap.size + 1]? = some (.cells #[.slice y.aR y.nR y.cR, .slice y.aM y.nM y.cM, .int .i64 y.lot, .int .i64 y.room] 29 (0, 0)) := by rw [← hW1]; exact alloc_at (by simp)
  have c00 : W1.cell? ⟨w.heap.size, 0, none⟩ = some (.slice o.aS o.nS o.cS) := cell_of_block zc0 0 (by simp)
  have c01 : W1.cell? ⟨w.heap.size, 1, none⟩ = some (.int .i64 o.kl) := cell_of_block zc0 1 (by simp)
  have c02 : W1.cell? ⟨w.heap.size, 2, none⟩ = some (.int .i64 o.kh) := cell_of_block zc0 2 (by simp)
  have c03 : W1.cell? ⟨w.heap.size, 3, none⟩ = some (.slice o.aA o.nA o.cA) := cell_of_block zc0 3 (by simp)
  have c04 : W1.cell? ⟨w.heap.size, 4, none⟩ = some (.slice o.aP o.nP o.cP) := cell_of_block zc0 4 (by simp)
  have c10 : W1.cell? ⟨w.heap.size + 1, 0, none⟩ = some (.slice y.aR y.nR y.cR) := cell_of_block zc1 0 (by simp)
  have c11 : W1.cell? ⟨w.heap.size + 1, 1, none⟩ = some (.slice y.aM y.nM y.cM) := cell_of_block zc1 1 (by simp)
  have c12 : W1.cell? ⟨w.heap.size + 1, 2, none⟩ = some (.int .i64 y.lot) := cell_of_block zc1 2 (by simp)
  have c13 : W1.cell? ⟨w.heap.size + 1, 3, none⟩ = some (.int .i64 y.room) := cell_of_block zc1 3 (by simp)
  have lc0 := (Array.getElem?_eq_some_iff.1 zc0).1
  have lc1 := (Array.getElem?_eq_some_iff.1 zc1).1
  have Zc0 := Lib.hid zc0
  have Zc1 := Lib.hid zc1
  clear zc0 zc1
  have HBc := Lib.hid hBc; clear hBc
  have HWc := Lib.hid hW1; clear hW1
  have GR := great_any o y aL m cL W1 (hO.below HBc.out) hfo hfy hm
  have LT := Left_any o y aL m cL L path
  have LT := fun W (hb : Below W1.heap.size W1 W) => Left_any o y aL m cL L path W (hO.below (thru hb HBc.out)) hfo (hY.below (thru hb HBc.out)) hfy (hL.below (thru hb HBc.out)) hm
  unfold LeftEnd at LT
  have HO := Lib.hid (hO.below HBc.out); have HY := Lib.hid (hY.below HBc.out); have HL := Lib.hid (hL.below HBc.out); have HBY := Lib.hid (hB.below HBc.out); have HBR := Lib.hid hBr; have HF := Lib.hid hfo; have HFY := Lib.hid hfy
  obtain ⟨kk, hk⟩ : ∃ kk : Nat, (if leftE o y m L path = 0 then m else 0) = kk := ⟨_, rfl⟩
  obtain ⟨ly, hly⟩ : ∃ ly, leftY o y m L path = ly := ⟨_, rfl⟩
  simp only [hk, hly] at LT
  obtain ⟨ev, hev⟩ : ∃ le, leftE o y m L path = le := ⟨_, rfl⟩
  simp only [hev] at LT
  rw [hev] at hk
  have HK := Lib.hid hk; have HLY := Lib.hid hly; have HEV := Lib.hid hev
  clear hk hly hev
  unfold Otl.val Lyg.val at GR LT
  have GR := Lib.hid GR; have LT := Lib.hid LT
  clear hO hY hL hfo hfy hB hBr
  go_enter Try.func6, Try.ntmps6
  go_upto_region 1 with (fail)
  rw [HWc.out]
  go_wp2_with fail
  refine GR.out.mono ?_
  rintro e w1 ⟨g, rfl, hg, hb⟩
  obtain ⟨z1, rfl⟩ := gw_of_below hb
  clear hb hg
  cases g
  rotate_left
  · go_wp2_with fail
    refine (Calls.gw_of (awake_any (gw W1 z1))).mono ?_
    rintro e w9 ⟨rfl, z9, rfl⟩
    go_wp2_with fail
    go_ret
    exact ⟨rfl, HBc.out.gw z9⟩
  go_wp2_with fail
  refine (LT.out _ (below_gw W1 z1)).mono ?_
  rintro e w2 ⟨al, cl, rfl, hr, hb2⟩
  by_cases h12 : ev = 1 ∨ ev = 2
  · obtain ⟨z2, rfl⟩ := gw_of_below (thru hb2 (below_gw W1 z1))
    have l0 := left_bad (o := o) (y := y) (m := m) (L := L) (path := path) (by rw [HEV.out]; exact h12)
    rw [HLY.out] at l0
    have k0 : kk = 0 := by rw [← HK.out, if_neg (by omega)]
    subst l0
    subst k0
    clear hr hb2
    rcases h12 with h | h
    · subst h
      go_wp2_with fail
      refine (Calls.gw_of (awake_any (gw W1 z2))).mono ?_
      rintro e w9 ⟨rfl, z9, rfl⟩
      go_wp2_with fail
      go_ret
      exact ⟨rfl, HBc.out.gw z9⟩
    · subst h
      go_wp2_with fail
      refine (Calls.gw_of (awake_any (gw W1 z2))).mono ?_
      rintro e w9 ⟨rfl, z9, rfl⟩
      go_wp2_with fail
      go_ret
      exact ⟨rfl, HBc.out.gw z9⟩
  have lg := left_good (o := o) (y := y) (m := m) (L := L) (path := path) (by rw [HEV.out]; omega) (by rw [HEV.out]; omega)
  obtain ⟨i, rfl⟩ : ∃ i : Nat, path = i := ⟨path.toNat, by have := inB_t.1 lg.2; omega⟩
  have HLG := Lib.hid lg
  obtain ⟨e1, e2, e3⟩ := argE_zero lg.1
  have HV := Lib.hid (And.intro e1 e2)
  have OB := outB_t e1
  have HOB := Lib.hid OB
  have nP8 := OB.2.2.2.2.2.2.2.2.1.2
  have nP1 := OB.2.2.2.2.2.2.2.2.1.1
  have nA4 := OB.2.2.2.2.2.2.1
  have nS32 := OB.1
  have hil : i < o.nP := by have := inB_t.1 lg.2; omega
  have hpi : (i : Int) < (o.nP : Int) := by omega
  have hp0 : ¬ (i : Int) < 0 := by omega
  have dp : decide ((o.nP : Int) ≤ (i : Int)) = false := by simp; omega
  have d1 : (ev == 1) = false := by simp; omega
  have d2 : (ev == 2) = false := by simp; omega
  obtain ⟨Wa, hWa⟩ : ∃ Wa, w2 = Wa := ⟨_, rfl⟩
  rw [hWa] at hr hb2 ⊢
  clear hWa
  have HBa := Lib.hid (thru hb2 (below_gw W1 z1))
  have HR := Lib.hid hr
  clear hr hb2 lg e1 e2 e3 OB h12 GR LT
  have HO := Lib.hid (HO.out.below HBa.out)
  have HY := Lib.hid (HY.out.below HBa.out)
  have HL := Lib.hid (HL.out.below HBa.out)
  have HBY := Lib.hid (HBY.out.below HBa.out)
  have Z0 := Lib.hid ((HBa.out.block _ lc0).trans Zc0.out)
  have Z1 := Lib.hid ((HBa.out.block _ lc1).trans Zc1.out)
  have la0 := (Array.getElem?_eq_some_iff.1 Z0.out).1
  have la1 := (Array.getElem?_eq_some_iff.1 Z1.out).1
  have HBwa := Lib.hid (HBc.out.trans (HBa.out.mono HBc.out.size))
  clear HBa Zc0 Zc1 lc0 lc1 HWc HBc c00 c01 c02 c03 c04 c10 c11 c12 c13
  have y00 : Wa.cell? ⟨w.heap.size, 0, none⟩ = some (.slice o.aS o.nS o.cS) := cell_of_block Z0.out 0 (by simp)
  have y01 : Wa.cell? ⟨w.heap.size, 1, none⟩ = some (.int .i64 o.kl) := cell_of_block Z0.out 1 (by simp)
  have y02 : Wa.cell? ⟨w.heap.size, 2, none⟩ = some (.int .i64 o.kh) := cell_of_block Z0.out 2 (by simp)
  have y03 : Wa.cell? ⟨w.heap.size, 3, none⟩ = some (.slice o.aA o.nA o.cA) := cell_of_block Z0.out 3 (by simp)
  have y04 : Wa.cell? ⟨w.heap.size, 4, none⟩ = some (.slice o.aP o.nP o.cP) := cell_of_block Z0.out 4 (by simp)
  go_upto_region 9 with (fail)
  obtain ⟨Wb, hWb⟩ : ∃ Wb, (Wa).alloc (.cells #[.slice o.aS o.nS o.cS, .int .i64 o.kl, .int .i64 o.kh, .slice o.aA o.nA o.cA, .slice o.aP o.nP o.cP] 27) = Wb := ⟨_, rfl⟩
  have hBd : Below Wa.heap.size Wa Wb := by rw [← hWb]; exact below_alloc _ _
  have zd0 : Wb.heap[Wa.heap.size]? = some (.cells #[.slice o.aS o.nS o.cS, .int .i64 o.kl, .int .i64 o.kh, .slice o.aA o.nA o.cA, .slice o.aP o.nP o.cP] 27 (0, 0)) := by rw [← hWb]; exact alloc_at rfl
  have d00 : Wb.cell? ⟨Wa.heap.size, 0, none⟩ = some (.slice o.aS o.nS o.cS) := cell_of_block zd0 0 (by simp)
  have d01 : Wb.cell? ⟨Wa.heap.size, 1, none⟩ = some (.int .i64 o.kl) := cell_of_block zd0 1 (by simp)
  have d02 : Wb.cell? ⟨Wa.heap.size, 2, none⟩ = some (.int .i64 o.kh) := cell_of_block zd0 2 (by simp)
  have d03 : Wb.cell? ⟨Wa.heap.size, 3, none⟩ = some (.slice o.aA o.nA o.cA) := cell_of_block zd0 3 (by simp)
  have d04 : Wb.cell? ⟨Wa.heap.size, 4, none⟩ = some (.slice o.aP o.nP o.cP) := cell_of_block zd0 4 (by simp)
  have ld0 := (Array.getElem?_eq_some_iff.1 zd0).1
  have Zd0 := Lib.hid zd0
  clear zd0
  have HBd := Lib.hid hBd; clear hBd
  have HWd := Lib.hid hWb; clear hWb
  rw [HWd.out]
  clear y00 y01 y02 y03 y04 d00 d01 d02 d03 d04
  obtain ⟨j0, jh, jy0, jy1, jy2⟩ := info_parts infoInt
  have JI := Lib.hid jh; have Y0 := Lib.hid jy0; have Y1 := Lib.hid jy1; have Y2 := Lib.hid jy2
  clear jh jy0 jy1 jy2
  have x1 := Lib.hid ((HBd.out.block _ la0).trans Z0.out)
  have x10 : Wb.cell? ⟨w.heap.size, 0, none⟩ = some (.slice o.aS o.nS o.cS) := cell_of_block x1.out 0 (by simp)
  have lx1 := (Array.getElem?_eq_some_iff.1 x1.out).1
  have H := Lib.hid (ints_news ((HO.out.iS.below HBd.out).below (below_alloc Wb (.cells #[] 3))))
  have OW : Hid ((Wb.alloc (.cells #[] 3)).ownsRow Wb.heap.size 3 1 (.slice (some ⟨Wb.heap.size, 0, none⟩) 0 0) 0 []) := Lib.hid ⟨rfl, .inr ⟨Wb.heap.size, 0, #[], rfl, Nat.le_refl _, alloc_at rfl, Nat.le_refl _, Nat.zero_le _, rfl, rfl⟩⟩
  go_upto_region 10 with (at_builtin; refine wpList_append_src (by rfl) _ _ 22 rfl Wb.heap.size 3 j0 (.int .i64 0) 1 8 Try.underlying22 JI.out Y0.out Y1.out Y2.out rfl (by decide) _ 0 [] rfl OW.out o.aS o.nS o.cS (intsV o.nS o.S) rfl (intsV_len _ _) H.out (intsV_one _ _) (by unfold maxLen; omega) (by omega) (by simp) ?_; intro v9 V9 hown9 hgrow9; rw [Nat.zero_add, List.nil_append] at hown9; have g9 : (Wb.alloc (.cells #[] 3)).grownBy V9 (Value.slice (some ⟨Wb.heap.size, 0, none⟩) 0 0).ownBlock := hgrow9; have B9 := Lib.hid ((below_alloc Wb (.cells #[] 3)).grown g9 (by simp) (fun b e => (OW.out.lt b e).1)); obtain ⟨a9, c9, rfl⟩ := own_form hown9; have zb9 := (B9.out.block _ ld0).trans Zd0.out; have f9 := frozen_of_block zb9 0; have l9 := (Array.getElem?_eq_some_iff.1 zb9).1; have d9 := cell_of_block zb9 0 (by simp); have ZB9 := Lib.hid zb9; have HW9 := Lib.hid (NumW.of_own hown9); clear zb9 hown9 hgrow9 g9)
  obtain ⟨V10, hV10⟩ : ∃ V10, V9.setCell ⟨Wa.heap.size, 0, none⟩ (.slice a9 o.nS c9) = V10 := ⟨_, rfl⟩
  have z10 : V10.heap[Wa.heap.size]? = some (.cells #[.slice a9 o.nS c9, .int .i64 o.kl, .int .i64 o.kh, .slice o.aA o.nA o.cA, .slice o.aP o.nP o.cP] 27 (0, 0)) := by rw [← hV10]; exact block_set 0 _ ZB9.out
  have g10 : V9.grownBy V10 (some Wa.heap.size) := by rw [← hV10]; exact grownBy_set _ _ _ _
  have szb : Wa.heap.size < Wb.heap.size := ld0
  have sz9 := B9.out.size
  have HB10 := Lib.hid ((HBd.out.trans (B9.out.mono (by omega))).grown g10 (by omega) (fun b e => by cases e; exact Nat.le_refl _))
  have HW10 := Lib.hid (HW9.out.kept g10 (fun b e => by cases e; exact szb))
  have Z10 := Lib.hid z10
  rw [hV10]
  clear hV10 z10 g10 HW9 ZB9 f9 l9 d9 H OW B9 sz9 x10 lx1 x1 HWd HBd
  go_wp2_with fail
  go_loopw [17] (fun s17 wr => ∃ (k : Nat) (S : Nat → Int), k ≤ o.nS ∧ s17 = .int .i64 (k : Int) ∧ Hid (NumW wr Wb.heap.size a9 o.nS S) ∧ Hid ((∀ j, j < o.nS → o.S j ≤ S j ∧ S j ≤ 1099511627776) ∧ ∀ j, k ≤ j → S j = o.S j) ∧ Hid (wr.heap[Wa.heap.size]? = some (.cells #[.slice a9 o.nS c9, .int .i64 o.kl, .int .i64 o.kh, .slice o.aA o.nA o.cA, .slice o.aP o.nP o.cP] 27 (0, 0))) ∧ Hid (Below Wa.heap.size Wa wr)) (fun s17 _ => o.nS - (intOf s17).toNat)
  case atStart => exact ⟨0, o.S, Nat.zero_le _, rfl, HW10, Lib.hid ⟨fun j hj => ⟨Int.le_refl _, (HOB.out.2.1 j hj).2⟩, fun _ _ => rfl⟩, Z10, HB10⟩
  case round =>
    obtain ⟨k, S, hk, rfl, HN, HS, HZ, HB⟩ := hrel
    have x0 : wr.cell? ⟨Wa.heap.size, 0, none⟩ = some (.slice a9 o.nS c9) := cell_of_block HZ.out 0 (by simp)
    have lx := (Array.getElem?_eq_some_iff.1 HZ.out).1
    by_cases hgo : k < o.nS ∧ 0 < nB
    · obtain ⟨hlt, hb0⟩ := hgo
      obtain ⟨g, rfl, hg, lg, fr, hc⟩ : ∃ g, a9 = some ⟨g, 0, none⟩ ∧ Wb.heap.size ≤ g ∧ g < wr.heap.size ∧ (∀ k, wr.frozen? ⟨g, k, none⟩ = false) ∧ ∀ j, j < o.nS → wr.cell? ⟨g, j, none⟩ = some (.int .i64 (S j)) := by rcases HN.out with h | h; omega; exact h
      rcases HBY.out with h0 | ⟨bB, oB, eB, lB, hcB⟩
      · omega
      obtain ⟨q, em, ml⟩ : ∃ g : Nat, (k : Int) % (nB : Int) = g ∧ g < nB := ⟨((k : Int) % (nB : Int)).toNat, by have := Int.emod_nonneg (k : Int) (show (nB : Int) ≠ 0 by omega); omega, by have := Int.emod_nonneg (k : Int) (show (nB : Int) ≠ 0 by omega); have := Int.emod_lt_of_pos (k : Int) (show 0 < (nB : Int) by omega); omega⟩
      have mli : (q : Int) < (nB : Int) := by omega
      have dn : ¬ (nB : Int) = 0 := by omega
      have db : decide ((0 : Int) < (nB : Int)) = true := by simp; omega
      have hki : (k : Int) < (o.nS : Int) := by omega
      obtain ⟨bv, hbv⟩ : ∃ v, B q = v := ⟨_, rfl⟩
      have xB := (HB.out.cell (p := ⟨bB, oB + q, none⟩) lB).trans (hcB q ml)
      rw [hbv] at xB
      have lB2 : bB < wr.heap.size := Nat.lt_of_lt_of_le lB HB.out.size
      have br := HBR.out q ml
      rw [hbv] at br
      obtain ⟨sv, hsv⟩ : ∃ v, S k = v := ⟨_, rfl⟩
      have xc := hc k hlt
      rw [hsv] at xc
      have fc := fr k
      have sr := HS.out.1 k hlt
      have s0 := (HOB.out.2.1 k hlt).1
      rw [hsv] at sr
      have s1 := HS.out.2 k (Nat.le_refl _)
      rw [hsv] at s1
      have HSV := Lib.hid s1; clear s1
      have ng : Wa.heap.size ≠ g := by omega
      have HLT := Lib.hid hlt
      subst eB
      clear hc fr hcB hbv hsv
      go_upto_region 13 with (fail)
      go_region
      go_wp2_with fail
      go_roundw
      case rel => exact ⟨k + 1, fun j => if j = k then min 1099511627776 (sv + bv) else S j, HLT.out, by have := HLT.out; go_num, Lib.hid ((HN.out.set HLT.out).kept (grownBy_of_below (below_drew _) none) (fun b e => by cases e)), Lib.hid ⟨fun j hj => by dsimp only; by_cases e : j = k; subst e; rw [if_pos rfl, ← HSV.out]; omega; rw [if_neg e]; exact HS.out.1 j hj, fun j hj => by dsimp only; rw [if_neg (by omega)]; exact HS.out.2 j (by omega)⟩, Lib.hid (((grownBy_trans (grownBy_set wr g k _) (grownBy_of_below (below_drew _) _)).block _ lx (by simp; omega)).trans HZ.out), Lib.hid (HB.out.grown (grownBy_trans (grownBy_set wr g k _) (grownBy_of_below (below_drew _) _)) HB.out.size (fun b e => by cases e; omega))⟩
      case measure => have := HLT.out; simp only [intOf]; omega
    · have hno : ¬ k < o.nS ∨ nB = 0 := by omega
      have HNO := Lib.hid hno; clear hno hgo
      go_upto_region 11 with (fail)
      go_cut [85] (fun s85 wx => s85 = .bool false ∧ wx = wr)
      case first =>
        rcases HNO.out with h | h
        · have dk : decide ((k : Int) < (o.nS : Int)) = false := by simp; omega
          go_wp2_with fail
          go_meet
          exact ⟨rfl, rfl⟩
        · have db : decide ((0 : Int) < (nB : Int)) = false := by simp; omega
          by_cases hks : k < o.nS
          · have dk : decide ((k : Int) < (o.nS : Int)) = true := by simp; omega
            go_wp2_with fail
            go_meet
            exact ⟨rfl, rfl⟩
          · have dk : decide ((k : Int) < (o.nS : Int)) = false := by simp; omega
            go_wp2_with fail
            go_meet
            exact ⟨rfl, rfl⟩
      case rest =>
      obtain ⟨rfl, hwc⟩ := hcut
      subst hwc
      obtain ⟨Vc, rfl⟩ : ∃ Vc, Vc = wc := ⟨_, rfl⟩
      have HS1 := Lib.hid HS.out.1
      clear x0 lx HNO HS
      have B0 := Lib.hid ((HB.out.block _ la0).trans Z0.out)
      have x00 : Vc.cell? ⟨w.heap.size, 0, none⟩ = some (.slice o.aS o.nS o.cS) := cell_of_block B0.out 0 (by simp)
      have x01 : Vc.cell? ⟨w.heap.size, 1, none⟩ = some (.int .i64 o.kl) := cell_of_block B0.out 1 (by simp)
      have x02 : Vc.cell? ⟨w.heap.size, 2, none⟩ = some (.int .i64 o.kh) := cell_of_block B0.out 2 (by simp)
      have x03 : Vc.cell? ⟨w.heap.size, 3, none⟩ = some (.slice o.aA o.nA o.cA) := cell_of_block B0.out 3 (by simp)
      have x04 : Vc.cell? ⟨w.heap.size, 4, none⟩ = some (.slice o.aP o.nP o.cP) := cell_of_block B0.out 4 (by simp)
      have lx0 := (Array.getElem?_eq_some_iff.1 B0.out).1
      go_upto_region 16 with (fail)
      obtain ⟨Wc, hWc⟩ : ∃ Wc, (Vc).alloc (.cells #[.slice o.aS o.nS o.cS, .int .i64 o.kl, .int .i64 o.kh, .slice o.aA o.nA o.cA, .slice none 0 0] 27) = Wc := ⟨_, rfl⟩
      have hBe : Below Vc.heap.size Vc Wc := by rw [← hWc]; exact below_alloc _ _
      have ze0 : Wc.heap[Vc.heap.size]? = some (.cells #[.slice o.aS o.nS o.cS, .int .i64 o.kl, .int .i64 o.kh, .slice o.aA o.nA o.cA, .slice none 0 0] 27 (0, 0)) := by rw [← hWc]; exact alloc_at rfl
      have e00 : Wc.cell? ⟨Vc.heap.size, 0, none⟩ = some (.slice o.aS o.nS o.cS) := cell_of_block ze0 0 (by simp)
      have e01 : Wc.cell? ⟨Vc.heap.size, 1, none⟩ = some (.int .i64 o.kl) := cell_of_block ze0 1 (by simp)
      have e02 : Wc.cell? ⟨Vc.heap.size, 2, none⟩ = some (.int .i64 o.kh) := cell_of_block ze0 2 (by simp)
      have e03 : Wc.cell? ⟨Vc.heap.size, 3, none⟩ = some (.slice o.aA o.nA o.cA) := cell_of_block ze0 3 (by simp)
      have e04 : Wc.cell? ⟨Vc.heap.size, 4, none⟩ = some (.slice none 0 0) := cell_of_block ze0 4 (by simp)
      have le0 := (Array.getElem?_eq_some_iff.1 ze0).1
      have Ze0 := Lib.hid ze0
      clear ze0
      have HBe := Lib.hid hBe; clear hBe
      have HWe := Lib.hid hWc; clear hWc
      rw [HWe.out]
      clear x00 x01 x02 x03 x04 lx0 B0 e00 e01 e02 e03 e04
      obtain ⟨t0, th, ty0, ty1, ty2⟩ := info_parts infoLI
      have TI := Lib.hid th; have T0 := Lib.hid ty0; have T1 := Lib.hid ty1; have T2 := Lib.hid ty2
      clear th ty0 ty1 ty2
      obtain ⟨s0, th, ty0, ty1, ty2⟩ := info_parts infoLL
      have SI := Lib.hid th; have S0 := Lib.hid ty0; have S1 := Lib.hid ty1; have S2 := Lib.hid ty2
      clear th ty0 ty1 ty2
      obtain ⟨pn, hpn⟩ : ∃ n, o.pN 0 = n := ⟨_, rfl⟩
      have HPN := Lib.hid (show ∀ i, i < o.nP → o.pN i = pn ∧ pn ≤ 10 ∧ ∀ t, t < pn → o.yN i t = o.nA ∧ ∀ p, p < o.nA → 0 ≤ o.V i t p ∧ o.V i t p ≤ 1099511627776 from fun i hi => by have P := HOB.out.2.2.2.2.2.2.2.2.2 i hi; have e : o.pN i = pn := P.1.trans hpn; rw [e] at P; exact ⟨e, P.2.1, fun t ht => by have Y := P.2.2 t ht; exact ⟨Y.1, fun p hp => Y.2 p (by rw [Y.1]; exact hp)⟩⟩)
      clear hpn
      have HBc2 := Lib.hid HB.out
      have hsz := HBe.out.size
      go_wp2_with fail
      go_loopw [19] (fun s19 wr => ∃ (j : Nat) (ab : Option Addr) (cb : Nat), j ≤ o.nP ∧ s19 = .int .i64 (j : Int) ∧ Hid (JList wr Wc.heap.size ab j cb pn o.nA (lessV le o.V)) ∧ Hid (wr.heap[Vc.heap.size]? = some (.cells #[.slice o.aS o.nS o.cS, .int .i64 o.kl, .int .i64 o.kh, .slice o.aA o.nA o.cA, .slice ab j cb] 27 (0, 0))) ∧ Hid (Below Vc.heap.size Vc wr) ∧ Hid (Wc.heap.size ≤ wr.heap.size)) (fun s19 _ => o.nP - (intOf s19).toNat)
      case atStart => exact ⟨0, none, 0, Nat.zero_le _, rfl, Lib.hid (JList.nil _ _ _ _ _), Ze0, HBe, Lib.hid (Nat.le_refl _)⟩
      case round =>
        obtain ⟨j, ab, cb, hj, rfl, HJ, HZ2, HB2, HWR⟩ := hrel
        obtain ⟨wo, rfl⟩ : ∃ wo, wo = wr := ⟨_, rfl⟩
        have HBA := Lib.hid (HBc2.out.trans (HB2.out.mono HBc2.out.size))
        have B0 := Lib.hid ((HBA.out.block _ la0).trans Z0.out)
        have x04 : wo.cell? ⟨w.heap.size, 4, none⟩ = some (.slice o.aP o.nP o.cP) := cell_of_block B0.out 4 (by simp)
        have lx0 := (Array.getElem?_eq_some_iff.1 B0.out).1
        have ssa := HBA.out.size
        by_cases hlt : j < o.nP
        · have hji : (j : Int) < (o.nP : Int) := by omega
          have PJ := HPN.out j hlt
          have HPJ := Lib.hid PJ
          rcases HO.out.iP with h0 | ⟨bP, oP, eP, lP, hcP⟩
          · omega
          have xP := (HBA.out.cell (p := ⟨bP, oP + j, none⟩) lP).trans (hcP j hlt)
          try dsimp only at xP
          rw [PJ.1] at xP
          have lP2 : bP < wo.heap.size := Nat.lt_of_lt_of_le lP HBA.out.size
          have x04b := x04
          rw [eP] at x04
          have EP := Lib.hid eP
          have HCP := Lib.hid hcP
          have HLT := Lib.hid hlt
          have pn10 := PJ.2.1
          clear hcP eP PJ hlt x04b
          go_wp2_with fail
          clear x04 xP
          go_loopw [20, 21] (fun s20 s21 wr => ∃ (t : Nat) (a2 : Option Addr) (c2 : Nat), t ≤ pn ∧ s20 = .slice a2 t c2 ∧ s21 = .int .i64 (t : Int) ∧ Hid (IList wr wo.heap.size a2 t c2 o.nA (lessV le o.V j)) ∧ Hid (Below wo.heap.size wo wr)) (fun _ s21 _ => pn - (intOf s21).toNat)
          case atStart => exact ⟨0, none, 0, Nat.zero_le _, rfl, rfl, Lib.hid (IList.nil _ _ _ _), Lib.hid (Below.refl _ _)⟩
          case round =>
            obtain ⟨t, a2, c2, ht, rfl, rfl, HI, HB3⟩ := hrel
            obtain ⟨wt, rfl⟩ : ∃ wt, wt = wr := ⟨_, rfl⟩
            have HBT := Lib.hid (HBA.out.trans (HB3.out.mono ssa))
            have B1 := Lib.hid ((HBT.out.block _ la0).trans Z0.out)
            have x04 : wt.cell? ⟨w.heap.size, 4, none⟩ = some (.slice o.aP o.nP o.cP) := cell_of_block B1.out 4 (by simp)
            have ly0 := (Array.getElem?_eq_some_iff.1 B1.out).1
            rw [EP.out] at x04
            have xP := (HBT.out.cell (p := ⟨bP, oP + j, none⟩) lP).trans (HCP.out j HLT.out)
            try dsimp only at xP
            rw [HPJ.out.1] at xP
            have lP3 : bP < wt.heap.size := Nat.lt_of_lt_of_le lP HBT.out.size
            have sst := HBT.out.size
            by_cases htm : t < pn
            · have hti : (t : Int) < (pn : Int) := by omega
              rcases HO.out.iY j HLT.out with h0 | ⟨bY, oY, eY, lY, hcY⟩
              · have := HPJ.out.1; omega
              have YT := HPJ.out.2.2 t htm
              have xY := (HBT.out.cell (p := ⟨bY, oY + t, none⟩) lY).trans (hcY t (by rw [HPJ.out.1]; exact htm))
              try dsimp only at xY
              rw [YT.1] at xY
              have lY3 : bY < wt.heap.size := Nat.lt_of_lt_of_le lY HBT.out.size
              rw [eY] at xP
              have iV := HO.out.iV j HLT.out t (by rw [HPJ.out.1]; exact htm)
              rw [YT.1] at iV
              have H := Lib.hid (ints_news ((iV.below HBT.out).below (below_alloc wt (.cells #[] 3))))
              have OW : Hid ((wt.alloc (.cells #[] 3)).ownsRow wt.heap.size 3 1 (.slice (some ⟨wt.heap.size, 0, none⟩) 0 0) 0 []) := Lib.hid ⟨rfl, .inr ⟨wt.heap.size, 0, #[], rfl, Nat.le_refl _, alloc_at rfl, Nat.le_refl _, Nat.zero_le _, rfl, rfl⟩⟩
              have HVT := Lib.hid YT.2
              have HTM := Lib.hid htm
              clear iV YT hcY htm eY
              go_upto_region 24 with (at_builtin; refine wpList_append_src (by rfl) _ _ 22 rfl wt.heap.size 3 j0 (.int .i64 0) 1 8 Try.underlying22 JI.out Y0.out Y1.out Y2.out rfl (by decide) _ 0 [] rfl OW.out (o.yA j t) o.nA (o.yC j t) (intsV o.nA (o.V j t)) rfl (intsV_len _ _) H.out (intsV_one _ _) (by unfold maxLen; omega) (by omega) (by simp) ?_; intro v9 V9 hown9 hgrow9; rw [Nat.zero_add, List.nil_append] at hown9; have g9 : (wt.alloc (.cells #[] 3)).grownBy V9 (Value.slice (some ⟨wt.heap.size, 0, none⟩) 0 0).ownBlock := hgrow9; have B9 := Lib.hid ((below_alloc wt (.cells #[] 3)).grown g9 (by simp) (fun b e => (OW.out.lt b e).1)); obtain ⟨a8, c8, rfl⟩ := own_form hown9; have HW9 := Lib.hid (NumW.of_own hown9); clear hown9 hgrow9 g9)
              clear OW H x04 xP xY
              go_wp2_with fail
              go_loopw [23] (fun s23 wr => ∃ (p : Nat) (R : Nat → Int), p ≤ o.nA ∧ s23 = .int .i64 (p : Int) ∧ Hid (NumW wr wt.heap.size a8 o.nA R) ∧ Hid ((∀ q, q < p → R q = lessV le o.V j t q) ∧ ∀ q, p ≤ q → R q = o.V j t q) ∧ Hid (Below wt.heap.size wt wr)) (fun s23 _ => o.nA - (intOf s23).toNat)
              case atStart => exact ⟨0, o.V j t, Nat.zero_le _, rfl, HW9, Lib.hid ⟨fun q hq => absurd hq (Nat.not_lt_zero q), fun _ _ => rfl⟩, B9⟩
              case round =>
                obtain ⟨p, R, hp, rfl, HN4, HR4, HB4⟩ := hrel
                by_cases hpA : p < o.nA
                · obtain ⟨g, rfl, hg, lg, fr, hc⟩ : ∃ g, a8 = some ⟨g, 0, none⟩ ∧ wt.heap.size ≤ g ∧ g < wr.heap.size ∧ (∀ k, wr.frozen? ⟨g, k, none⟩ = false) ∧ ∀ j, j < o.nA → wr.cell? ⟨g, j, none⟩ = some (.int .i64 (R j)) := by rcases HN4.out with h | h; omega; exact h
                  obtain ⟨rm, em⟩ : ∃ rm, le % ((p : Int) + 2) = rm := ⟨_, rfl⟩
                  have rm0 : 0 ≤ rm := by rw [← em]; exact Int.emod_nonneg _ (by omega)
                  have rm1 : rm < (p : Int) + 2 := by rw [← em]; exact Int.emod_lt_of_pos _ (by omega)
                  obtain ⟨v, hv⟩ : ∃ v, R p = v := ⟨_, rfl⟩
                  have xc := hc p hpA
                  rw [hv] at xc
                  have fc := fr p
                  have hv2 := HR4.out.2 p (Nat.le_refl _)
                  rw [hv] at hv2
                  have vr := HVT.out p hpA
                  rw [← hv2] at vr
                  have HLV := Lib.hid (show lessV le o.V j t p = max 0 (v - rm) by unfold lessV; rw [← hv2, em])
                  have hpi : (p : Int) < (o.nA : Int) := by omega
                  have dn : ¬ (p : Int) + 2 = 0 := by omega
                  have HPA := Lib.hid hpA
                  clear hc fr hv hv2
                  go_wp2_with fail
                  go_region
                  go_wp2_with fail
                  go_roundw
                  case rel => exact ⟨p + 1, fun q => if q = p then max 0 (v - rm) else R q, HPA.out, by have := HPA.out; go_num, Lib.hid ((HN4.out.set HPA.out).kept (grownBy_of_below (below_drew _) none) (fun b e => by cases e)), Lib.hid ⟨fun q hq => by dsimp only; by_cases e : q = p; subst e; rw [if_pos rfl, HLV.out]; rw [if_neg e]; exact HR4.out.1 q (by omega), fun q hq => by dsimp only; rw [if_neg (by omega)]; exact HR4.out.2 q (by omega)⟩, Lib.hid (HB4.out.grown (grownBy_trans (grownBy_set wr g p _) (grownBy_of_below (below_drew _) _)) HB4.out.size (fun b e => by cases e; omega))⟩
                  case measure => have := HPA.out; simp only [intOf]; omega
                · have hpn : p = o.nA := by omega
                  obtain ⟨V5, rfl⟩ : ∃ V5, V5 = wr := ⟨_, rfl⟩
                  have il := HI.out.lt
                  obtain ⟨rA, rC, ho1, ho3⟩ := (HI.out.below HB4.out).below (below_alloc V5 (.cells #[Value.slice a8 o.nA c8] 22))
                  have HRB := Lib.hid ((HN4.out.rowB (base' := wo.heap.size) (ob := oB a2) (L := lessV le o.V j t) HB3.out.size (fun b e => (il b e).2) (fun q hq => HR4.out.1 q (by rw [hpn]; exact hq))).below (below_alloc V5 (.cells #[Value.slice a8 o.nA c8] 22)))
                  have HO1 := Lib.hid ho1; have HO3 := Lib.hid ho3
                  have IL := Lib.hid il
                  clear ho1 ho3 il
                  have HN9 := Lib.hid (news_lit V5 [Value.slice a8 o.nA c8] 22)
                  have s5 := HB4.out.size
                  have s3 := HB3.out.size
                  have HPN2 := Lib.hid hpn
                  clear hpn
                  go_wp2_with (at_builtin; refine wpList_append_own_at _ rfl _ _ 32 rfl wo.heap.size 22 t0 (.slice none 0 0) 1 24 Try.underlying32 TI.out T0.out T1.out T2.out rfl (by decide) _ t ((List.range t).map fun u => .slice (rA u) o.nA (rC u)) rfl HO1.out ⟨V5.heap.size, 0, none⟩ 1 1 [.slice a8 o.nA c8] rfl rfl HN9.out (by simp [Value.oneCell']) (by unfold maxLen; omega) (by omega) (by simp; omega) ?_; intro v7 V7 hown7 hgrow7 _ hat7)
                  have g7 : (V5.alloc (.cells #[Value.slice a8 o.nA c8] 22)).grownBy V7 (oB a2) := by rw [← own_oB a2 t c2]; exact hgrow7
                  have hat : v7.ownBlock = oB a2 ∨ ∀ b, v7.ownBlock = some b → (V5.alloc (.cells #[Value.slice a8 o.nA c8] 22)).heap.size ≤ b := by rcases hat7 with e | e; exact .inl (e.trans (own_oB a2 t c2)); exact .inr (fun b hb => by rw [e] at hb; cases hb; exact Nat.le_refl _)
                  obtain ⟨a7, c7, rfl, hi7, -⟩ := IList.push HO3.out HRB.out g7 hown7 hat
                  have HB7 := Lib.hid (((HB3.out.trans (HB4.out.mono s3)).trans ((below_alloc V5 (.cells #[Value.slice a8 o.nA c8] 22)).mono (by omega))).grown g7 (by simp; omega) (fun b e => (IL.out b e).1))
                  have HI7 := Lib.hid hi7
                  clear hi7 g7 hat hown7 hgrow7 hat7
                  go_roundw
                  case rel => exact ⟨t + 1, a7, c7, HTM.out, rfl, by have := HTM.out; go_num, HI7, HB7⟩
                  case measure => have := HTM.out; simp only [intOf]; omega
            · have htn : t = pn := by omega
              subst htn
              have dt : ¬ (t : Int) < (t : Int) := by omega
              have jl := HJ.out.lt
              have lz := (Array.getElem?_eq_some_iff.1 HZ2.out).1
              have z9 := (HB3.out.block _ lz).trans HZ2.out
              have x18 : wt.cell? ⟨Vc.heap.size, 4, none⟩ = some (.slice ab j cb) := cell_of_block z9 4 (by simp)
              have lz9 := (Array.getElem?_eq_some_iff.1 z9).1
              have ZA := Lib.hid (((below_alloc wt (.cells #[Value.slice a2 t c2] 32)).block _ lz9).trans z9)
              obtain ⟨pA, pC, ho1, ho3⟩ := (HJ.out.below HB3.out).below (below_alloc wt (.cells #[Value.slice a2 t c2] 32))
              have HO1 := Lib.hid ho1; have HO3 := Lib.hid ho3
              have HMB := Lib.hid ((HI.out.path (base' := Wc.heap.size) (ob := oB ab) HWR.out (fun b e => (jl b e).2)).move (grownBy_of_below (below_alloc wt (.cells #[Value.slice a2 t c2] 32)) _) (.inl rfl))
              have JL := Lib.hid jl
              clear ho1 ho3 jl z9
              have HN9 := Lib.hid (news_lit wt [Value.slice a2 t c2] 32)
              have s3 := HB3.out.size
              have s2 := HB2.out.size
              have hwr := HWR.out
              have szc : Vc.heap.size < Wc.heap.size := le0
              go_upto_region 18 with (at_builtin; refine wpList_append_own_at _ rfl _ _ 25 rfl Wc.heap.size 32 s0 (.slice none 0 0) 1 24 Try.underlying25 SI.out S0.out S1.out S2.out rfl (by decide) _ j ((List.range j).map fun u => .slice (pA u) t (pC u)) rfl HO1.out ⟨wt.heap.size, 0, none⟩ 1 1 [.slice a2 t c2] rfl rfl HN9.out (by simp [Value.oneCell']) (by unfold maxLen; omega) (by omega) (by simp; omega) ?_; intro v7 V7 hown7 hgrow7 _ hat7; have g7 : (wt.alloc (.cells #[Value.slice a2 t c2] 32)).grownBy V7 (oB ab) := (by rw [← own_oB ab j cb]; exact hgrow7); have hat : v7.ownBlock = oB ab ∨ ∀ b, v7.ownBlock = some b → (wt.alloc (.cells #[Value.slice a2 t c2] 32)).heap.size ≤ b := (by rcases hat7 with e | e; exact .inl (e.trans (own_oB ab j cb)); exact .inr (fun b hb => by rw [e] at hb; cases hb; exact Nat.le_refl _)); obtain ⟨a7, c7, rfl, hj7⟩ := JList.push HO3.out HMB.out g7 hown7 hat; have nb : some Vc.heap.size ≠ oB ab := (fun e => by have := (JL.out _ e.symm).1; omega); have z7 := (g7.block _ (Array.getElem?_eq_some_iff.1 ZA.out).1 nb).trans ZA.out; have f7 := frozen_of_block z7 4; have l7 := (Array.getElem?_eq_some_iff.1 z7).1; have d7 := cell_of_block z7 4 (by simp); have Z7 := Lib.hid z7; have HJ7 := Lib.hid hj7; have G7 := Lib.hid g7; clear z7 hj7 g7 hat nb hown7 hgrow7 hat7)
              have g8 := grownBy_set V7 Vc.heap.size 4 (.slice a7 (j + 1) c7)
              have HJ8 := Lib.hid (HJ7.out.stored g8 szc)
              have Z8 := Lib.hid (block_set 4 (.slice a7 (j + 1) c7) Z7.out)
              have HB8 := Lib.hid (((((HB2.out.trans (HB3.out.mono s2)).trans ((below_alloc wt (.cells #[Value.slice a2 t c2] 32)).mono (by omega))).grown G7.out (by simp; omega) (fun b e => by have := (JL.out b e).1; omega))).grown g8 (by have a := G7.out.size; simp at a; omega) (fun b e => by cases e; exact Nat.le_refl _))
              have HW8 := Lib.hid (show Wc.heap.size ≤ (V7.setCell ⟨Vc.heap.size, 4, none⟩ (.slice a7 (j + 1) c7)).heap.size by have a := G7.out.size; have b := g8.size; simp at a; omega)
              clear g8
              go_wp2_with fail
              go_roundw
              case rel => exact ⟨j + 1, a7, c7, HLT.out, by have := HLT.out; go_num, HJ8, Z8, HB8, HW8⟩
              case measure => have := HLT.out; simp only [intOf]; omega
        · have hjn : j = o.nP := by omega
          subst hjn
          have M1 := Lib.hid (more_easier (a := a9) (c := c9) HV.out.1 HS1.out)
          have I0 := HO.out.below HBA.out
          have I1 := Lib.hid (more_in (c := c9) I0 (HN.out.ints.below HB2.out))
          have F1 := Lib.hid (more_fits (a := a9) (c := c9) (S := S) HF.out)
          obtain ⟨pA, pC, yA, yC, i2⟩ := less_in (le := le) I0 HJ.out
          have I2 := Lib.hid i2
          have M2 := Lib.hid (less_easier (a := ab) (c := cb) (pA := pA) (pC := pC) (yA := yA) (yC := yC) (le := le) HV.out.1 (fun i hi => ⟨(HPN.out i hi).1, (HPN.out i hi).2.1⟩))
          have F2 := Lib.hid (less_fits (a := ab) (c := cb) (pA := pA) (pC := pC) (yA := yA) (yC := yC) (le := le) HF.out (HPN.out 0 nP1).2.1)
          obtain ⟨o1, ho1⟩ : ∃ q, o.more a9 c9 S = q := ⟨_, rfl⟩
          obtain ⟨o2, ho2⟩ : ∃ q, o.less ab cb pn pA pC yA yC le = q := ⟨_, rfl⟩
          rw [ho1] at M1 I1 F1
          rw [ho2] at M2 I2 F2
          have z16 := (HB2.out.block _ (Array.getElem?_eq_some_iff.1 HZ.out).1).trans HZ.out
          have x60 : wo.cell? ⟨Wa.heap.size, 0, none⟩ = some (.slice o1.aS o1.nS o1.cS) := by rw [← ho1]; exact cell_of_block z16 0 (by simp)
          have x61 : wo.cell? ⟨Wa.heap.size, 1, none⟩ = some (.int .i64 o1.kl) := by rw [← ho1]; exact cell_of_block z16 1 (by simp)
          have x62 : wo.cell? ⟨Wa.heap.size, 2, none⟩ = some (.int .i64 o1.kh) := by rw [← ho1]; exact cell_of_block z16 2 (by simp)
          have x63 : wo.cell? ⟨Wa.heap.size, 3, none⟩ = some (.slice o1.aA o1.nA o1.cA) := by rw [← ho1]; exact cell_of_block z16 3 (by simp)
          have x64 : wo.cell? ⟨Wa.heap.size, 4, none⟩ = some (.slice o1.aP o1.nP o1.cP) := by rw [← ho1]; exact cell_of_block z16 4 (by simp)
          have x80 : wo.cell? ⟨Vc.heap.size, 0, none⟩ = some (.slice o2.aS o2.nS o2.cS) := by rw [← ho2]; exact cell_of_block HZ2.out 0 (by simp)
          have x81 : wo.cell? ⟨Vc.heap.size, 1, none⟩ = some (.int .i64 o2.kl) := by rw [← ho2]; exact cell_of_block HZ2.out 1 (by simp)
          have x82 : wo.cell? ⟨Vc.heap.size, 2, none⟩ = some (.int .i64 o2.kh) := by rw [← ho2]; exact cell_of_block HZ2.out 2 (by simp)
          have x83 : wo.cell? ⟨Vc.heap.size, 3, none⟩ = some (.slice o2.aA o2.nA o2.cA) := by rw [← ho2]; exact cell_of_block HZ2.out 3 (by simp)
          have x84 : wo.cell? ⟨Vc.heap.size, 4, none⟩ = some (.slice o2.aP o2.nP o2.cP) := by rw [← ho2]; exact cell_of_block HZ2.out 4 (by simp)
          have l6 := (Array.getElem?_eq_some_iff.1 z16).1
          have l8 := (Array.getElem?_eq_some_iff.1 HZ2.out).1
          clear i2 I0 ho1 ho2 z16 HN HZ HS1 HJ HZ2 HPN
          go_upto_region 31 with (fail)
          obtain ⟨W5, hW5⟩ : ∃ W5, wo.alloc (.cells #[.slice o1.aS o1.nS o1.cS, .int .i64 o1.kl, .int .i64 o1.kh, .slice o1.aA o1.nA o1.cA, .slice o1.aP o1.nP o1.cP, .slice o2.aS o2.nS o2.cS, .int .i64 o2.kl, .int .i64 o2.kh, .slice o2.aA o2.nA o2.cA, .slice o2.aP o2.nP o2.cP] 27) = W5 := ⟨_, rfl⟩
          rw [hW5]
          have q5 : W5.heap[wo.heap.size]? = some (.cells #[.slice o1.aS o1.nS o1.cS, .int .i64 o1.kl, .int .i64 o1.kh, .slice o1.aA o1.nA o1.cA, .slice o1.aP o1.nP o1.cP, .slice o2.aS o2.nS o2.cS, .int .i64 o2.kl, .int .i64 o2.kh, .slice o2.aA o2.nA o2.cA, .slice o2.aP o2.nP o2.cP] 27 (0, 0)) := by rw [← hW5]; exact alloc_at rfl
          have b5 : Below wo.heap.size wo W5 := by rw [← hW5]; exact below_alloc _ _
          have l5 := (Array.getElem?_eq_some_iff.1 q5).1
          have HQ := Lib.hid (show ∀ k, k < 2 → ∃ o9 : Otl, Hid (Easier o o9) ∧ Hid (o9.In W5) ∧ Hid o9.Fits ∧ W5.cell? ⟨wo.heap.size, 5 * k, none⟩ = some (.slice o9.aS o9.nS o9.cS) ∧ W5.cell? ⟨wo.heap.size, 5 * k + 1, none⟩ = some (.int .i64 o9.kl) ∧ W5.cell? ⟨wo.heap.size, 5 * k + 2, none⟩ = some (.int .i64 o9.kh) ∧ W5.cell? ⟨wo.heap.size, 5 * k + 3, none⟩ = some (.slice o9.aA o9.nA o9.cA) ∧ W5.cell? ⟨wo.heap.size, 5 * k + 4, none⟩ = some (.slice o9.aP o9.nP o9.cP) from fun k hk => by rcases (show k = 0 ∨ k = 1 by omega) with rfl | rfl; exact ⟨o1, M1, Lib.hid (I1.out.below b5), F1, cell_of_block q5 0 (by simp), cell_of_block q5 1 (by simp), cell_of_block q5 2 (by simp), cell_of_block q5 3 (by simp), cell_of_block q5 4 (by simp)⟩; exact ⟨o2, M2, Lib.hid (I2.out.below b5), F2, cell_of_block q5 5 (by simp), cell_of_block q5 6 (by simp), cell_of_block q5 7 (by simp), cell_of_block q5 8 (by simp), cell_of_block q5 9 (by simp)⟩)
          have HBW := Lib.hid (HBA.out.trans (b5.mono ssa))
          have HL5 := Lib.hid (HL.out.below HBW.out)
          have HY5 := Lib.hid (HY.out.below HBW.out)
          have HR5 := Lib.hid (HR.out.below HBW.out)
          have Z15 := Lib.hid ((HBW.out.block _ la1).trans Z1.out)
          have sz5 := HBW.out.size
          have h05 : wo.heap.size < W5.heap.size := l5
          clear hW5 q5 b5 M1 M2 I1 I2 F1 F2 HB2 HBA HB HBc2 HR HO HY HL HBY HBR Z0 Z1 x60 x80 x61 x81 x62 x82 x63 x83 x64 x84 l6 l8
          go_wp2_with fail
          go_loopw [25] (fun s25 wr => ∃ k5 : Nat, k5 ≤ 2 ∧ s25 = .int .i64 (k5 : Int) ∧ Hid (Below W5.heap.size W5 wr)) (fun s25 _ => 2 - (intOf s25).toNat)
          case atStart => exact ⟨0, Nat.zero_le _, rfl, Lib.hid (Below.refl _ _)⟩
          case round =>
            obtain ⟨k5, hk5, rfl, HB5⟩ := hrel
            by_cases h2 : k5 < 2
            · obtain ⟨o9, M9, I9, F9, c0, c1, c2, c3, c4⟩ := HQ.out k5 h2
              replace c0 := (HB5.out.cell h05).trans c0
              replace c1 := (HB5.out.cell h05).trans c1
              replace c2 := (HB5.out.cell h05).trans c2
              replace c3 := (HB5.out.cell h05).trans c3
              replace c4 := (HB5.out.cell h05).trans c4
              have z1 := Lib.hid ((HB5.out.block _ (Nat.lt_of_lt_of_le la1 sz5)).trans Z15.out)
              have c10 : wr.cell? ⟨w.heap.size + 1, 0, none⟩ = some (.slice y.aR y.nR y.cR) := cell_of_block z1.out 0 (by simp)
              have c11 : wr.cell? ⟨w.heap.size + 1, 1, none⟩ = some (.slice y.aM y.nM y.cM) := cell_of_block z1.out 1 (by simp)
              have c12 : wr.cell? ⟨w.heap.size + 1, 2, none⟩ = some (.int .i64 y.lot) := cell_of_block z1.out 2 (by simp)
              have c13 : wr.cell? ⟨w.heap.size + 1, 3, none⟩ = some (.int .i64 y.room) := cell_of_block z1.out 3 (by simp)
              have s5 := HB5.out.size
              have lq5 : wo.heap.size < wr.heap.size := Nat.lt_of_lt_of_le h05 s5
              have lw1 : w.heap.size + 1 < wr.heap.size := by omega
              have e0 := c0
              have e1 := c1
              have e2 := c2
              have e3 := c3
              have e4 := c4
              rw [Nat.mul_comm 5 k5] at e0
              rw [Nat.mul_comm 5 k5] at e1
              rw [Nat.mul_comm 5 k5] at e2
              rw [Nat.mul_comm 5 k5] at e3
              rw [Nat.mul_comm 5 k5] at e4
              have EL := Lib.hid (easier_left M9.out HLG.out.1 HLG.out.2)
              have L9 := fun x => Left_any o9 y aL m cL L i (gw wr x) (I9.out.below (HB5.out.gw x)) F9.out (HY5.out.below (HB5.out.gw x)) HFY.out (HL5.out.below (HB5.out.gw x)) hm
              unfold LeftEnd Otl.val Lyg.val at L9
              obtain ⟨kq, hkq⟩ : ∃ kq : Nat, (if leftE o9 y m L i = 0 then m else 0) = kq := ⟨_, rfl⟩
              obtain ⟨lq, hlq⟩ : ∃ lq, leftY o9 y m L i = lq := ⟨_, rfl⟩
              simp only [hkq, hlq] at L9
              obtain ⟨eq9, heq⟩ : ∃ le, leftE o9 y m L i = le := ⟨_, rfl⟩
              simp only [heq] at L9
              rw [heq] at hkq
              have HKQ := Lib.hid hkq; have HLQ := Lib.hid hlq; have HEQ := Lib.hid heq
              have L9 := Lib.hid L9
              clear hkq hlq heq
              have hki : (k5 : Int) < 2 := by omega
              go_upto_region 34 with (fail)
              refine wp_region_steps (fun w' => ∃ x, w' = gw wr x) [([0, 1, 2, 3, 4, 5, 6], 7)] [8, 9, 10, 11, 12, 13, 14] [] (by kernel_rfl) (by kernel_rfl) ?_
              rintro _ ⟨x0, rfl⟩
              refine ⟨⟨_, rfl⟩, ?_⟩
              refine wpSeg_cons ?_
              simp only [pickL, List.getElem?_cons_zero, List.getElem?_cons_succ]
              repeat (go_big_quiet_step (fail))
              refine wpQuiet_nil ?_
              go_wp2_with fail
              rename_i KK hKK
              refine (L9.out x0).mono ?_
              rintro e w2 ⟨al9, cl9, rfl, hr9, hb⟩
              obtain ⟨x1, hx2⟩ := gw_of_below (thru hb (below_gw wr x0))
              clear hb
              subst hx2
              refine hKK _ _ (contQ_nil ⟨⟨_, rfl⟩, ?_⟩)
              clear hKK KK
              refine wpSeg_nil ?_
              simp only [pickL, List.getElem?_cons_zero, List.getElem?_cons_succ]
              repeat (go_big_quiet_step (fail))
              refine wpQuiet_nil ?_
              refine contN_nil ?_
              obtain ⟨wq, rfl⟩ : ∃ wq, wq = wr := ⟨_, rfl⟩
              obtain ⟨W9, hW9⟩ : ∃ W9, gw wq x1 = W9 := ⟨_, rfl⟩
              rw [Int.toNat_natCast] at hr9
              rw [hW9] at hr9 ⊢
              have HB9 := Lib.hid (show Below W5.heap.size W5 W9 by rw [← hW9]; exact HB5.out.gw x1)
              have hra := HR5.out.below HB9.out
              rw [Int.toNat_natCast] at hra
              have HR9 := Lib.hid hr9
              have HRA := Lib.hid hra
              have el := EL.out
              rw [HEV.out, HEQ.out, HLY.out, HLQ.out] at el
              have HG := Lib.hid (show (ev = 0 ∧ eq9 = 0) ∨ (ev ≠ 0 ∧ eq9 = 0) ∨ (ev = 10 ∧ eq9 = 10 ∧ ly ≤ lq) from by rcases el.2.2.2 with h | h; by_cases h0 : ev = 0; exact .inl ⟨h0, h⟩; exact .inr (.inl ⟨h0, h⟩); exact .inr (.inr ⟨h.2.1, h.1, h.2.2⟩))
              have HRW := Lib.hid el.2.2.1
              clear hr9 hra el hW9 L9 c0 c1 c2 c3 c4 e0 e1 e2 e3 e4 c10 c11 c12 c13 z1 d1 d2 EL hki
              go_upto_region 35 with (fail)
              go_cut [210] (fun s210 wx => s210 = .bool false ∧ wx = W9)
              case first =>
                rcases HG.out with ⟨h1, h2⟩ | ⟨h1, h2⟩ | ⟨h1, h2, h3⟩
                · subst h1
                  subst h2
                  obtain rfl : m = kk := by have := HK.out; simpa using this
                  obtain rfl : m = kq := by have := HKQ.out; simpa using this
                  go_wp2_with fail
                  go_meet
                  exact ⟨rfl, rfl⟩
                · have dz : (ev == 0) = false := by simp; omega
                  subst h2
                  go_wp2_with fail
                  go_meet
                  exact ⟨rfl, rfl⟩
                · subst h1
                  subst h2
                  have dl : decide ((lq : Int) < (ly : Int)) = false := by simp; omega
                  have dl2 : decide (lq < ly) = false := by simp; omega
                  go_wp2_with fail
                  go_meet
                  exact ⟨rfl, rfl⟩
              case rest =>
                obtain ⟨rfl, hwc⟩ := hcut
                subst hwc
                obtain ⟨W9, rfl⟩ : ∃ W9, W9 = wc := ⟨_, rfl⟩
                have HK5 := Lib.hid h2
                by_cases h0 : ev = 0
                · obtain ⟨h1, h9⟩ : ev = 0 ∧ eq9 = 0 := by rcases HG.out with h | h | h <;> omega
                  clear h0
                  subst h1
                  subst h9
                  obtain rfl : m = kk := by have := HK.out; simpa using this
                  obtain rfl : m = kq := by have := HKQ.out; simpa using this
                  replace HRW := Lib.hid (HRW.out rfl).2
                  clear HG HK HKQ
                  go_wp2_with fail
                  go_loopw [29] (fun s29 wx => ∃ t : Nat, t ≤ m ∧ s29 = .int .i64 (t : Int) ∧ ∃ x, wx = gw W9 x) (fun s29 _ => m - (intOf s29).toNat)
                  case atStart => exact ⟨0, Nat.zero_le _, rfl, ⟨#[], W9.drawn⟩, by simp [gw]⟩
                  case round =>
                    obtain ⟨t, ht, rfl, z6, rfl⟩ := hrel
                    by_cases htm : t < m
                    · have hti : (t : Int) < (m : Int) := by omega
                      obtain ⟨rA, rC, hcs, hin⟩ := HRA.out
                      obtain ⟨rB, rD, hcs9, hin9⟩ := HR9.out
                      replace hin := hin t htm
                      replace hin9 := hin9 t htm
                      rcases hcs with h0 | ⟨b, ob, eb, lb, hc⟩
                      · omega
                      rcases hcs9 with h0 | ⟨b9, ob9, eb9, lb9, hc9⟩
                      · omega
                      have xa := hc t htm
                      have xb := hc9 t htm
                      dsimp only at xa xb
                      subst eb
                      subst eb9
                      obtain ⟨ra, hra⟩ : ∃ r, rA t = r := ⟨_, rfl⟩
                      obtain ⟨rc, hrc⟩ : ∃ r, rC t = r := ⟨_, rfl⟩
                      obtain ⟨rb, hrb⟩ : ∃ r, rB t = r := ⟨_, rfl⟩
                      obtain ⟨rd, hrd⟩ : ∃ r, rD t = r := ⟨_, rfl⟩
                      rw [hra, hrc] at xa
                      rw [hrb, hrd] at xb
                      rw [hra] at hin
                      rw [hrb] at hin9
                      clear hra hrc hrb hrd hc hc9
                      rcases hin with h0 | ⟨g, og, eg, lg, hg⟩
                      · omega
                      rcases hin9 with h0 | ⟨g9, og9, eg9, lg9, hg9⟩
                      · omega
                      subst eg
                      subst eg9
                      have HG1 := Lib.hid hg
                      have HG9 := Lib.hid hg9
                      have HTM := Lib.hid htm
                      clear hg hg9 htm
                      go_wp2_with fail
                      go_loopw [30] (fun s30 wx => ∃ k : Nat, k ≤ 32 ∧ s30 = .int .i64 (k : Int) ∧ ∃ x, wx = gw W9 x) (fun s30 _ => 32 - (intOf s30).toNat)
                      case atStart => exact ⟨0, Nat.zero_le _, rfl, z6, rfl⟩
                      case round =>
                        obtain ⟨q, hq, rfl, z7, rfl⟩ := hrel
                        by_cases hqm : q < 32
                        · have hqi : (q : Int) < 32 := by omega
                          have xv := HG1.out q hqm
                          have xu := HG9.out q hqm
                          have le := HRW.out t HTM.out q
                          try dsimp only at xv xu
                          obtain ⟨v, hv⟩ : ∃ v, (o.leftRow y i L t).getD q 0 = v := ⟨_, rfl⟩
                          obtain ⟨u, hu⟩ : ∃ v, (o9.leftRow y i L t).getD q 0 = v := ⟨_, rfl⟩
                          rw [hv] at xv le
                          rw [hu] at xu le
                          clear hv hu
                          have du : decide (u < v) = false := by simp; omega
                          have HQM := Lib.hid hqm
                          clear hqm
                          go_wp2_with fail
                          go_region
                          go_wp2_with fail
                          go_roundw
                          case rel => exact ⟨q + 1, HQM.out, by have := HQM.out; go_num, gw_of_below (thru (below_drew _) (below_gw W9 z7))⟩
                          case measure => have := HQM.out; simp only [intOf]; omega
                        · obtain rfl : q = 32 := by omega
                          clear hqm hq
                          go_wp2_with fail
                          go_roundw
                          case rel => exact ⟨t + 1, HTM.out, by have := HTM.out; go_num, z7, rfl⟩
                          case measure => have := HTM.out; simp only [intOf]; omega
                    · obtain rfl : t = m := by omega
                      clear htm ht
                      go_wp2_with fail
                      go_roundw
                      case rel => exact ⟨k5 + 1, HK5.out, by have := HK5.out; go_num, Lib.hid (HB9.out.gw z6)⟩
                      case measure => have := HK5.out; simp only [intOf]; omega
                · have dz : (ev == 0) = false := by simp; omega
                  have dz2 : (ev != 0) = true := by simp; omega
                  go_wp2_with fail
                  go_roundw
                  case rel => exact ⟨k5 + 1, HK5.out, by have := HK5.out; go_num, HB9⟩
                  case measure => have := HK5.out; simp only [intOf]; omega
            · obtain rfl : k5 = 2 := by omega
              clear h2 hk5
              go_wp2_with fail
              refine (awake_any wr).mono ?_
              rintro e w9 ⟨rfl, hb⟩
              go_wp2_with fail
              go_ret
              exact ⟨rfl, thru hb (thru HB5.out (thru HBW.out HBwa.out))⟩
end Go.Proofs.Ytdcpgjepgajioaa
