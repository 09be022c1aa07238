/- Contract of PlanOpen: true. No conditions beyond each theorem's own. -/
import Derived.Test.YtdcpgjepgajioaaOa
import Derived.Test.YtdcpgjepgajioaaAo
set_option linter.unusedVariables false
set_option linter.unusedSimpArgs false
set_option linter.unusedSectionVars false
set_option linter.constructorNameAsVariable false
namespace Go.Proofs.Ytdcpgjepgajioaa
open Go.RowKit

attribute [local go_sem] gw_cell gw_frozen gw_size
attribute [local go_sem] keepW_cell
attribute [local go_sem ↓] run_minI

theorem infoLL : (Try.prog.info? 32).map (fun i => (i.zero, i.size, i.bytes)) = some (some (.slice none 0 0), 1, 24) := by kernel_rfl
theorem RowVs.Ok.below {r : RowVs} {w w' : World} (h : r.Ok w) (hb : Below w.heap.size w w') : r.Ok w' := ⟨h.1.below hb, h.2.1, fun i hi => ⟨((h.2.2 i hi).1).below hb, (h.2.2 i hi).2⟩⟩
/-- an owned row of numbers, read -/
theorem row_of_ints {w : World} {base n c : Nat} {a : Option Addr} {L : Nat → Int} (h : w.ownsRow base 3 1 (.slice a n c) n (intsV n L)) : n = 0 ∨ ∃ g, a = some ⟨g, 0, none⟩ ∧ base ≤ g ∧ g < w.heap.size ∧ (∀ k, w.frozen? ⟨g, k, none⟩ = false) ∧ ∀ j, j < n → w.cell? ⟨g, j, none⟩ = some (.int .i64 (L j)) := by
  rcases h.2 with ⟨_, h0⟩ | ⟨g, cap, cur, hv, q1, q2, _⟩
  · exact .inl h0
  · simp only [Value.slice.injEq] at hv
    obtain ⟨rfl, _, rfl⟩ := hv
    refine .inr ⟨g, rfl, q1, (Array.getElem?_eq_some_iff.1 q2).1, fun k => frozen_of_block q2 k, fun j hj => ?_⟩
    have := h.cells (g := g) rfl j (.int .i64 (L j)) (by simp [intsV, hj])
    rw [addr_add, Nat.zero_add] at this
    exact this
theorem cells_of_own {w : World} {base n c : Nat} {a : Option Addr} {e : TypeId} {V : Nat → Value} (h : w.ownsRow base e 1 (.slice a n c) n ((List.range n).map V)) : CellsAt w a n V := by
  rcases h.2 with ⟨_, h0⟩ | ⟨g, cap, cur, hv, q1, q2, _⟩
  · exact .inl h0
  · simp only [Value.slice.injEq] at hv
    obtain ⟨rfl, _, rfl⟩ := hv
    refine .inr ⟨g, 0, rfl, (Array.getElem?_eq_some_iff.1 q2).1, fun j hj => ?_⟩
    have := h.cells (g := g) rfl j (V j) (by simp [hj])
    rw [addr_add] at this
    exact this
theorem ch_three (o : Otl) (y : Lyg) (wt : Nat → Int) : chE o y wt = 0 ∨ chE o y wt = 1 ∨ chE o y wt = 4 := by
  unfold chE; split
  · split <;> simp
  · simp
theorem ch_valid {o : Otl} {y : Lyg} {wt : Nat → Int} (h : chE o y wt ≠ 1) : outB o = true ∧ layB o y = true := by
  by_cases hv : outB o = true ∧ layB o y = true
  · exact hv
  · exact absurd (ch_arg hv).1 h
theorem ch_found {o : Otl} {y : Lyg} {wt : Nat → Int} (h : chE o y wt = 0) : ∃ x, findF o y wt = some x ∧ chL o y wt = x.1 ∧ chS o y wt = x.2 := by
  have hv := ch_valid (o := o) (y := y) (wt := wt) (by rw [h]; decide)
  cases hf : findF o y wt with
  | none => rw [(ch_none hv hf).1] at h; cases h
  | some x => exact ⟨x, rfl, (ch_some hv hf).2⟩
theorem cells_news {w : World} {a : Option Addr} {n : Nat} {V : Nat → Value} (h : CellsAt w a n V) : n = 0 ∨ ∃ ad, a = some ad ∧ ∀ j u, ((List.range n).map V)[j]? = some u → w.cell? (ad.add j) = some u := by
  rcases h with h | ⟨b, off, e, hb, hc⟩
  · exact .inl h
  · refine .inr ⟨_, e, fun j u hj => ?_⟩
    have hjl : j < n := by have := (List.getElem?_eq_some_iff.1 hj).1; simpa using this
    have hu : u = V j := by simp [hjl] at hj; exact hj.symm
    rw [addr_add, hu]
    exact hc j hjl
theorem range_cons (n : Nat) (f g : Nat → Value) (x : Value) (h0 : g 0 = x) (h1 : ∀ i, g (i + 1) = f i) : [x] ++ (List.range n).map f = (List.range (n + 1)).map g := by
  rw [List.range_succ_eq_map, List.map_cons, h0, List.map_map]
  exact congrArg (x :: ·) (List.map_congr_left fun i _ => (h1 i).symm)
theorem set_ints {w : World} {g n k : Nat} {L : Nat → Int} {v : Int} (hg : g < w.heap.size) (h : ∀ j, j < n → w.cell? ⟨g, j, none⟩ = some (.int .i64 (L j))) (hk : k < n) : IntsAt (w.setCell ⟨g, k, none⟩ (.int .i64 v)) (some ⟨g, 0, none⟩) n (fun j => if j = k then v else L j) := by
  refine .inr ⟨g, 0, rfl, Nat.lt_of_lt_of_le hg (grownBy_set w g k _).size, fun j hj => ?_⟩
  rw [Nat.zero_add]
  show _ = some (Value.int .i64 (if j = k then v else L j))
  by_cases e : j = k
  · subst e
    rw [World.cell?_setCell_same' _ _ _ (by rw [h j hj]; rfl), if_pos rfl]
  · rw [World.cell?_setCell_other _ _ _ _ (by simp <;> omega), h j hj, if_neg e]
theorem cons_in {o : Otl} {r : RowVs} {a : Option Addr} {c : Nat} {w : World} (hO : o.In w) (hr : r.Ok w) (hp : CellsAt w a (o.nP + 1) fun i => .slice ((o.cons r a c).pA i) ((o.cons r a c).pN i) ((o.cons r a c).pC i)) : (o.cons r a c).In w := by
  refine ⟨hO.iS, hO.iA, hp, fun i hi => ?_, fun i hi t ht => ?_⟩
  · match i with
    | 0 => exact hr.1
    | i + 1 => exact hO.iY i (by have : i + 1 < o.nP + 1 := hi; omega)
  · match i with
    | 0 => exact (hr.2.2 t ht).1
    | i + 1 => exact hO.iV i (by have : i + 1 < o.nP + 1 := hi; omega) t ht
theorem cons_fits {o : Otl} {r : RowVs} {a : Option Addr} {c : Nat} {w : World} (hF : o.Fits) (hr : r.Ok w) (hn : o.nP ≤ 8) : (o.cons r a c).Fits := by
  refine ⟨hF.nS, hF.nA, by show o.nP + 1 ≤ _; omega, fun i hi => ?_, fun i hi t ht => ?_⟩
  · match i with
    | 0 => exact hr.2.1
    | i + 1 => exact hF.pN i (by have : i + 1 < o.nP + 1 := hi; omega)
  · match i with
    | 0 => exact (hr.2.2 t ht).2.1
    | i + 1 => exact hF.yN i (by have : i + 1 < o.nP + 1 := hi; omega) t ht
theorem rev_in {o : Otl} {a : Option Addr} {c : Nat} {w : World} (hO : o.In w) (hp : CellsAt w a o.nP fun i => .slice ((o.rev a c).pA i) ((o.rev a c).pN i) ((o.rev a c).pC i)) : (o.rev a c).In w :=
  ⟨hO.iS, hO.iA, hp, fun i hi => hO.iY (o.nP - 1 - i) (by have : i < o.nP := hi; omega), fun i hi t ht => hO.iV (o.nP - 1 - i) (by have : i < o.nP := hi; omega) t ht⟩
theorem rev_fits {o : Otl} {a : Option Addr} {c : Nat} (hF : o.Fits) : (o.rev a c).Fits :=
  ⟨hF.nS, hF.nA, hF.nP, fun i hi => hF.pN (o.nP - 1 - i) (by have : i < o.nP := hi; omega), fun i hi t ht => hF.yN (o.nP - 1 - i) (by have : i < o.nP := hi; omega) t ht⟩
/-- what is wider is as cheap and needs as few -/
theorem wide_ch {o : Otl} {y y' : Lyg} (hE : chE o y y.R = 0) (hLB' : layB o y' = true) (hR : y'.R = y.R) (hlot : y'.lot = y.lot) (hroom : y.room ≤ y'.room) (hn : y'.nM = y.nM) (hM : ∀ t, t < y.nM → y.M t ≤ y'.M t) :
    chE o y' y'.R = 0 ∧ chE o y' (fun _ => 1) = 0 ∧ chS o y' y'.R ≤ chS o y y.R ∧ (chL o y' (fun _ => 1)).length = y.nM ∧ (chL o y (fun _ => 1)).length = y.nM ∧ costN (fun _ => 1) (lotF (chL o y' (fun _ => 1))) y.nM ≤ costN (fun _ => 1) (lotF (chL o y (fun _ => 1))) y.nM ∧ (∀ t, t < y.nM → lotF (chL o y (fun _ => 1)) t ≤ y.M t) ∧ ∀ t, t < y.nM → lotF (chL o y' (fun _ => 1)) t ≤ y'.M t := by
  have hv := ch_valid (o := o) (y := y) (wt := y.R) (by rw [hE]; decide)
  have hw : ∀ t, t < y.nM → 0 ≤ y.R t := fun t ht => ((layB_t hv.2).2.2.1 t (by have a := layB_t hv.2; have := a.1; have := a.2.1; omega)).1
  obtain ⟨x, f1, f2, f3⟩ := ch_found hE
  obtain ⟨x', g1, g2⟩ := find_wide hv.1 hv.2 hLB' hlot hroom hn hM hw f1
  have hE1 : chE o y (fun _ => 1) = 0 := by rw [← chE_both]; exact hE
  obtain ⟨z, k1, k2, k3⟩ := ch_found hE1
  obtain ⟨z', m1, m2⟩ := find_wide hv.1 hv.2 hLB' hlot hroom hn hM (fun t _ => by decide) k1
  have c1 := ch_some ⟨hv.1, hLB'⟩ (wt := y'.R) (by rw [hR]; exact g1)
  have c2 := ch_some ⟨hv.1, hLB'⟩ m1
  have oz := find_ok hv.1 hv.2 (fun t _ => by decide) k1
  have oz' := find_ok hv.1 hLB' (fun t _ => by decide) m1
  refine ⟨c1.1, c2.1, by rw [c1.2.2, f3]; exact g2, by rw [c2.2.1, oz'.1, hn], by rw [k2, oz.1], ?_, by rw [k2]; exact oz.2.1, by rw [c2.2.1]; rw [← hn]; exact oz'.2.1⟩
  have e1 := oz.2.2.2.1
  have e2 := oz'.2.2.2.1
  unfold costW at e1 e2
  rw [oz.1] at e1
  rw [oz'.1, hn] at e2
  rw [c2.2.1, k2, ← e1, ← e2]
  exact m2

set_option maxRecDepth 100000 in
set_option maxHeartbeats 16000000 in
theorem planOpen_law (o : Otl) (y : Lyg) (mo yr : Int) (r : RowVs) (w : World) (hO : o.In w) (hfo : o.Fits) (hY : y.In w) (hfy : y.Fits) (hmo : 0 ≤ mo ∧ mo ≤ 65535) (hyr : 0 ≤ yr ∧ yr ≤ 255) (hr : r.Ok w) :
    Calls Try.prog 8 #[o.val, y.val, .int .u16 mo, .int .u8 yr, r.val] w fun e w' => e = .returned (.bool true) ∧ Below w.heap.size w w' := by
  unfold Otl.val Lyg.val RowVs.val
  obtain ⟨W1, hW1⟩ : ∃ W1, (w.alloc (.cells #[.slice o.aS o.nS o.cS, .int .i64 o.kl, .int .i64 o.kh, .slice o.aA o.nA o.cA, .slice o.aP o.nP o.cP] 27)).alloc (.cells #[.slice y.aR y.nR y.cR, .slice y.aM y.nM y.cM, .int .i64 y.lot, .int .i64 y.room] 29) = W1 := ⟨_, rfl⟩
  have hBc : Below w.heap.size w W1 := by rw [← hW1]; exact (below_alloc _ _).alloc (by simp) _
  have zc0 : W1.heap[w.heap.size]? = some (.cells #[.slice o.aS o.nS o.cS, .int .i64 o.kl, .int .i64 o.kh, .slice o.aA o.nA o.cA, .slice o.aP o.nP o.cP] 27 (0, 0)) := by rw [← hW1]; exact alloc_keep (alloc_at rfl)
  have zc1 : W1.heap[w.heap.size + 1]? = some (.cells #[.slice y.aR y.nR y.cR, .slice y.aM y.nM y.cM, .int .i64 y.lot, .int .i64 y.room] 29 (0, 0)) := by rw [← hW1]; exact alloc_at (by simp)
  have c00 : W1.cell? ⟨w.heap.size, 0, none⟩ = some (.slice o.aS o.nS o.cS) := cell_of_block zc0 0 (by simp)
  have c01 : W1.cell? ⟨w.heap.size, 1, none⟩ = some (.int .i64 o.kl) := cell_of_block zc0 1 (by simp)
  have c02 : W1.cell? ⟨w.heap.size, 2, none⟩ = some (.int .i64 o.kh) := cell_of_block zc0 2 (by simp)
  have c03 : W1.cell? ⟨w.heap.size, 3, none⟩ = some (.slice o.aA o.nA o.cA) := cell_of_block zc0 3 (by simp)
  have c04 : W1.cell? ⟨w.heap.size, 4, none⟩ = some (.slice o.aP o.nP o.cP) := cell_of_block zc0 4 (by simp)
  have c10 : W1.cell? ⟨w.heap.size + 1, 0, none⟩ = some (.slice y.aR y.nR y.cR) := cell_of_block zc1 0 (by simp)
  have c11 : W1.cell? ⟨w.heap.size + 1, 1, none⟩ = some (.slice y.aM y.nM y.cM) := cell_of_block zc1 1 (by simp)
  have c12 : W1.cell? ⟨w.heap.size + 1, 2, none⟩ = some (.int .i64 y.lot) := cell_of_block zc1 2 (by simp)
  have c13 : W1.cell? ⟨w.heap.size + 1, 3, none⟩ = some (.int .i64 y.room) := cell_of_block zc1 3 (by simp)
  have lc0 := (Array.getElem?_eq_some_iff.1 zc0).1
  have lc1 := (Array.getElem?_eq_some_iff.1 zc1).1
  have Zc0 := Lib.hid zc0
  have Zc1 := Lib.hid zc1
  clear zc0 zc1
  have HBc := Lib.hid hBc; clear hBc
  have HWc := Lib.hid hW1; clear hW1
  have GR := great_any o y none 0 0 W1 (hO.below HBc.out) hfo hfy (by decide)
  have SL := fun z => slow_any y 300 (gw W1 z) (hY.below (thru (below_gw W1 z) HBc.out)) hfy.nM (by decide) (by decide)
  have CH := fun W (hb : Below W1.heap.size W1 W) => Cheapest_any o y W (hO.below (thru hb HBc.out)) hfo (hY.below (thru hb HBc.out)) hfy
  have FW := fun W (hb : Below W1.heap.size W1 W) => Fewest_any o y W (hO.below (thru hb HBc.out)) hfo (hY.below (thru hb HBc.out)) hfy
  rw [← chE_both] at FW
  have RO := fun W (hb : Below W1.heap.size W1 W) => rOutlook_any o W (hO.below (thru hb HBc.out)) hfo
  have HO := Lib.hid (hO.below HBc.out); have HY := Lib.hid (hY.below HBc.out); have HR := Lib.hid (hr.below HBc.out); have HF := Lib.hid hfo; have HFY := Lib.hid hfy
  obtain ⟨sb, hsb⟩ : ∃ sb : Bool, decide ((300 : Int) < slowN y.M 300 y.nM) = sb := ⟨_, rfl⟩
  simp only [hsb] at SL
  obtain ⟨l2, hl2⟩ : ∃ l, chL o y (fun _ => 1) = l := ⟨_, rfl⟩
  obtain ⟨s1, hs1⟩ : ∃ s, chS o y y.R = s := ⟨_, rfl⟩
  obtain ⟨ev, hev⟩ : ∃ e, chE o y y.R = e := ⟨_, rfl⟩
  simp only [hs1, hev] at CH
  simp only [hl2, hev] at FW
  obtain ⟨ll, hll⟩ : ∃ n, (chL o y y.R).length = n := ⟨_, rfl⟩
  simp only [hll] at CH
  obtain ⟨n2, hn2⟩ : ∃ n, l2.length = n := ⟨_, rfl⟩
  simp only [hn2] at FW
  have HL2 := Lib.hid hl2; have HS1 := Lib.hid hs1; have HEV := Lib.hid hev; have HN2 := Lib.hid hn2
  have ev3 := ch_three o y y.R
  rw [hev] at ev3
  have EV3 := Lib.hid ev3
  unfold Otl.val Lyg.val at GR CH FW
  unfold Lyg.val at SL
  unfold Otl.val at RO
  have GR := Lib.hid GR
  have SL := Lib.hid SL
  have CH := Lib.hid CH
  have FW := Lib.hid FW
  have RO := Lib.hid RO
  clear hsb hl2 hs1 hev hll hn2 ev3 hO hY hfo hfy hr
  go_enter Try.func8, Try.ntmps8
  go_upto_region 1 with (fail)
  rw [HWc.out]
  go_wp2_with fail
  refine GR.out.mono ?_
  rintro e w1 ⟨g, rfl, hg, hb⟩
  obtain ⟨z1, rfl⟩ := gw_of_below hb
  cases g
  rotate_left
  · clear hb hg
    go_wp2_with fail
    refine (Calls.gw_of (awake_any (gw W1 z1))).mono ?_
    rintro e w9 ⟨rfl, z9, rfl⟩
    go_wp2_with fail
    go_ret
    exact ⟨rfl, HBc.out.gw z9⟩
  have SMA := Lib.hid (hg rfl)
  clear hb hg
  go_wp2_with fail
  refine (Calls.gw_of (SL.out z1)).mono ?_
  rintro e w1 ⟨rfl, z2, rfl⟩
  cases sb
  rotate_left
  · go_wp2_with fail
    refine (Calls.gw_of (awake_any (gw W1 z2))).mono ?_
    rintro e w9 ⟨rfl, z9, rfl⟩
    go_wp2_with fail
    go_ret
    exact ⟨rfl, HBc.out.gw z9⟩
  by_cases hp : r.n ≤ 14
  rotate_left
  · have dp : decide ((14 : Int) < (r.n : Int)) = true := by simp; omega
    go_wp2_with fail
    refine (Calls.gw_of (awake_any (gw W1 z2))).mono ?_
    rintro e w9 ⟨rfl, z9, rfl⟩
    go_wp2_with fail
    go_ret
    exact ⟨rfl, HBc.out.gw z9⟩
  have dp : decide ((14 : Int) < (r.n : Int)) = false := by simp; omega
  go_wp2_with fail
  clear dp
  refine (CH.out _ (below_gw W1 z2)).mono ?_
  rintro e w2 ⟨a1, q1, rfl, hr1, hb1⟩
  obtain ⟨z3, rfl⟩ := gw_of_below (thru hb1 (below_gw W1 z2))
  clear hr1 hb1
  go_wp2_with fail
  refine (FW.out _ (below_gw W1 z3)).mono ?_
  rintro e w3 ⟨a2, q2, rfl, hr2, hb2⟩
  have I2 := Lib.hid (show IntsAt w3 a2 n2 (lotF l2) from by have := hr2.ints; rw [HN2.out] at this; exact this)
  obtain ⟨z4, rfl⟩ := gw_of_below (thru hb2 (below_gw W1 z3))
  clear hr2 hb2
  by_cases h1 : ev = 1
  · subst h1
    go_wp2_with fail
    refine (Calls.gw_of (awake_any (gw W1 z4))).mono ?_
    rintro e w9 ⟨rfl, z9, rfl⟩
    go_wp2_with fail
    go_ret
    exact ⟨rfl, HBc.out.gw z9⟩
  have hv := ch_valid (o := o) (y := y) (wt := y.R) (by rw [HEV.out]; exact h1)
  obtain ⟨e1, e2⟩ := hv
  have RL := fun W (hb : Below W1.heap.size W1 W) => rLaying_any o y W (HO.out.below hb) (by have := outB_t e1; omega) (HF.out.pN 0 (by have := outB_t e1; omega)) (HY.out.below hb) HFY.out
  have RO := RO.out
  rw [e1] at RO
  rw [e2] at RL
  unfold Otl.val Lyg.val at RL
  have RO := Lib.hid RO; have RL := Lib.hid RL
  have HV := Lib.hid (And.intro e1 e2)
  have OB := outB_t e1
  have LB := layB_t e2
  have nM10 : y.nM ≤ 10 := by have := (OB.2.2.2.2.2.2.2.2.2 0 (by omega)).2.1; have := LB.2.1; omega
  have nP8 : o.nP ≤ 8 := OB.2.2.2.2.2.2.2.2.1.2
  have nP1 : 1 ≤ o.nP := OB.2.2.2.2.2.2.2.2.1.1
  have M8 := Lib.hid LB.2.2.2.1
  have rr := LB.2.2.2.2.2
  have RW := Lib.hid LB.2.2.1
  have nRM := Lib.hid (show y.nR = y.nM by omega)
  have hev2 : ev = 0 ∨ ev = 4 := by have := EV3.out; omega
  have HEV2 := Lib.hid hev2
  clear e1 e2 OB LB h1 hev2
  go_upto_region 5 with (fail)
  go_cut [63] (fun s63 wx => s63 = .bool false ∧ wx = gw W1 z4)
  case first =>
    rcases HEV2.out with h | h
    · have h5 := h
      subst h5
      go_wp2_with fail
      go_meet
      exact ⟨rfl, rfl⟩
    · have h5 := h
      subst h5
      go_wp2_with fail
      go_meet
      exact ⟨rfl, rfl⟩
  case rest =>
  obtain ⟨rfl, hwc⟩ := hcut
  subst hwc
  go_wp2_with fail
  refine (RO.out _ (below_gw W1 z4)).mono ?_
  rintro e w5 ⟨rfl, hb5⟩
  have I5 := Lib.hid (I2.out.below hb5)
  obtain ⟨z5, rfl⟩ := gw_of_below (thru hb5 (below_gw W1 z4))
  clear hb5
  go_wp2_with fail
  refine (RL.out _ (below_gw W1 z5)).mono ?_
  rintro e w6 ⟨rfl, hb6⟩
  have I6 := Lib.hid (I5.out.below hb6)
  obtain ⟨z6, rfl⟩ := gw_of_below (thru hb6 (below_gw W1 z5))
  clear hb6
  obtain ⟨Wa, hWa⟩ : ∃ Wa, gw W1 z6 = Wa := ⟨_, rfl⟩
  have HBa := Lib.hid (show Below W1.heap.size W1 Wa by rw [← hWa]; exact below_gw W1 z6)
  obtain ⟨Wa, hWa⟩ : ∃ Wa, gw W1 z6 = Wa := ⟨_, rfl⟩
  have HBa := Lib.hid (show Below W1.heap.size W1 Wa by rw [← hWa]; exact below_gw W1 z6)
  have I2a := Lib.hid (show IntsAt Wa a2 n2 (lotF l2) by rw [← hWa]; exact I6.out)
  rw [hWa]
  have HO := Lib.hid (HO.out.below HBa.out)
  have HY := Lib.hid (HY.out.below HBa.out)
  have HR := Lib.hid (HR.out.below HBa.out)
  have Z0 := Lib.hid ((HBa.out.block _ lc0).trans Zc0.out)
  have Z1 := Lib.hid ((HBa.out.block _ lc1).trans Zc1.out)
  have la0 := (Array.getElem?_eq_some_iff.1 Z0.out).1
  have la1 := (Array.getElem?_eq_some_iff.1 Z1.out).1
  have HBwa := Lib.hid (HBc.out.trans (HBa.out.mono HBc.out.size))
  clear hWa CH FW RO RL GR SL HBa Zc0 Zc1 lc0 lc1 c00 c01 c02 c03 c04 c10 c11 c12 c13
  have y10 : Wa.cell? ⟨w.heap.size + 1, 0, none⟩ = some (.slice y.aR y.nR y.cR) := cell_of_block Z1.out 0 (by simp)
  have y11 : Wa.cell? ⟨w.heap.size + 1, 1, none⟩ = some (.slice y.aM y.nM y.cM) := cell_of_block Z1.out 1 (by simp)
  have y12 : Wa.cell? ⟨w.heap.size + 1, 2, none⟩ = some (.int .i64 y.lot) := cell_of_block Z1.out 2 (by simp)
  have y13 : Wa.cell? ⟨w.heap.size + 1, 3, none⟩ = some (.int .i64 y.room) := cell_of_block Z1.out 3 (by simp)
  go_upto_region 11 with (fail)
  obtain ⟨Wb, hWb⟩ : ∃ Wb, (Wa).alloc (.cells #[.slice y.aR y.nR y.cR, .slice y.aM y.nM y.cM, .int .i64 y.lot, .int .i64 (min 1099511627776 (y.room + mo))] 29) = Wb := ⟨_, rfl⟩
  have hBd : Below Wa.heap.size Wa Wb := by rw [← hWb]; exact below_alloc _ _
  have zd0 : Wb.heap[Wa.heap.size]? = some (.cells #[.slice y.aR y.nR y.cR, .slice y.aM y.nM y.cM, .int .i64 y.lot, .int .i64 (min 1099511627776 (y.room + mo))] 29 (0, 0)) := by rw [← hWb]; exact alloc_at rfl
  have d00 : Wb.cell? ⟨Wa.heap.size, 0, none⟩ = some (.slice y.aR y.nR y.cR) := cell_of_block zd0 0 (by simp)
  have d01 : Wb.cell? ⟨Wa.heap.size, 1, none⟩ = some (.slice y.aM y.nM y.cM) := cell_of_block zd0 1 (by simp)
  have d02 : Wb.cell? ⟨Wa.heap.size, 2, none⟩ = some (.int .i64 y.lot) := cell_of_block zd0 2 (by simp)
  have d03 : Wb.cell? ⟨Wa.heap.size, 3, none⟩ = some (.int .i64 (min 1099511627776 (y.room + mo))) := cell_of_block zd0 3 (by simp)
  have ld0 := (Array.getElem?_eq_some_iff.1 zd0).1
  have Zd0 := Lib.hid zd0
  clear zd0
  have HBd := Lib.hid hBd; clear hBd
  have HWd := Lib.hid hWb; clear hWb
  rw [HWd.out]
  clear y10 y11 y12 y13
  obtain ⟨rm, hrm⟩ : ∃ rm, min 1099511627776 (y.room + mo) = rm := ⟨_, rfl⟩
  rw [hrm] at d03 Zd0
  have rm0 : y.room ≤ rm ∧ rm ≤ 1099511627776 := by omega
  have RM := Lib.hid rm0
  clear hrm
  obtain ⟨j0, jh, jy0, jy1, jy2⟩ := info_parts infoInt
  have JI := Lib.hid jh; have Y0 := Lib.hid jy0; have Y1 := Lib.hid jy1; have Y2 := Lib.hid jy2
  clear jh jy0 jy1 jy2
  have x1 := Lib.hid ((HBd.out.block _ la1).trans Z1.out)
  have x11 : Wb.cell? ⟨w.heap.size + 1, 1, none⟩ = some (.slice y.aM y.nM y.cM) := cell_of_block x1.out 1 (by simp)
  have lx1 := (Array.getElem?_eq_some_iff.1 x1.out).1
  have H := Lib.hid (ints_news ((HY.out.iM.below HBd.out).below (below_alloc Wb (.cells #[] 3))))
  have OW : Hid ((Wb.alloc (.cells #[] 3)).ownsRow Wb.heap.size 3 1 (.slice (some ⟨Wb.heap.size, 0, none⟩) 0 0) 0 []) := Lib.hid ⟨rfl, .inr ⟨Wb.heap.size, 0, #[], rfl, Nat.le_refl _, alloc_at rfl, Nat.le_refl _, Nat.zero_le _, rfl, rfl⟩⟩
  go_upto_region 12 with (at_builtin; refine wpList_append_src (by rfl) _ _ 22 rfl Wb.heap.size 3 j0 (.int .i64 0) 1 8 Try.underlying22 JI.out Y0.out Y1.out Y2.out rfl (by decide) _ 0 [] rfl OW.out y.aM y.nM y.cM (intsV y.nM y.M) rfl (intsV_len _ _) H.out (intsV_one _ _) (by unfold maxLen; omega) (by omega) (by simp) ?_; intro v9 V9 hown9 hgrow9; rw [Nat.zero_add, List.nil_append] at hown9; have g9 : (Wb.alloc (.cells #[] 3)).grownBy V9 (Value.slice (some ⟨Wb.heap.size, 0, none⟩) 0 0).ownBlock := hgrow9; have B9 := Lib.hid ((below_alloc Wb (.cells #[] 3)).grown g9 (by simp) (fun b e => (OW.out.lt b e).1)); obtain ⟨a9, c9, rfl⟩ := own_form hown9; have zb9 := (B9.out.block _ ld0).trans Zd0.out; have f9 := frozen_of_block zb9 1; have l9 := (Array.getElem?_eq_some_iff.1 zb9).1; have d9 := cell_of_block zb9 1 (by simp); have ZB9 := Lib.hid zb9; have HW9 := Lib.hid hown9; clear zb9 hown9 hgrow9 g9)
  obtain ⟨V10, hV10⟩ : ∃ V10, V9.setCell ⟨Wa.heap.size, 1, none⟩ (.slice a9 y.nM c9) = V10 := ⟨_, rfl⟩
  have z10 : V10.heap[Wa.heap.size]? = some (.cells #[.slice y.aR y.nR y.cR, .slice a9 y.nM c9, .int .i64 y.lot, .int .i64 rm] 29 (0, 0)) := by rw [← hV10]; exact block_set 1 _ ZB9.out
  have g10 : V9.grownBy V10 (some Wa.heap.size) := by rw [← hV10]; exact grownBy_set _ _ _ _
  have szb : Wa.heap.size < Wb.heap.size := ld0
  have sz9 := B9.out.size
  have hB10 : Below Wa.heap.size Wa V10 := ((HBd.out.trans (B9.out.mono (by omega))).grown g10 (by omega) (fun b e => by cases e; exact Nat.le_refl _))
  have ho10 := HW9.out.kept g10 (by cases h9 : (Value.slice a9 y.nM c9).ownBlock with | none => exact .inl rfl | some b => (have := (HW9.out.lt b h9).1; exact .inr (fun e => by cases e; omega)))
  have HW10 := Lib.hid ho10; have Z10 := Lib.hid z10; have HB10 := Lib.hid hB10
  rw [hV10]
  clear hV10 z10 g10 hB10 ho10 HW9 ZB9 f9 l9 d9 H OW B9 sz9 x11 lx1 x1 HWd HBd d00 d01 d02 d03
  have u1 : V10.cell? ⟨Wa.heap.size, 1, none⟩ = some (.slice a9 y.nM c9) := cell_of_block Z10.out 1 (by simp)
  have l10 := (Array.getElem?_eq_some_iff.1 Z10.out).1
  go_upto_if 95 with (fail)
  go_cut [17] (fun _ wx => ∃ M : Nat → Int, Hid (IntsAt wx a9 y.nM M) ∧ Hid (∀ t, t < y.nM → y.M t ≤ M t ∧ 0 ≤ M t ∧ M t ≤ 8) ∧ Hid (wx.heap[Wa.heap.size]? = some (.cells #[.slice y.aR y.nR y.cR, .slice a9 y.nM c9, .int .i64 y.lot, .int .i64 rm] 29 (0, 0))) ∧ Hid (Below Wa.heap.size Wa wx))
  case first =>
    by_cases hM0 : y.nM = 0
    · have d0 : decide ((0 : Int) < (y.nM : Int)) = false := by simp; omega
      have d1 : decide (0 < y.nM) = false := by simp; omega
      have d2 : ¬ 0 < y.nM := by omega
      have d3 : ¬ (0 : Int) < (y.nM : Int) := by omega
      have HM0 := Lib.hid hM0; clear hM0
      go_wp2_with fail
      go_meet
      exact ⟨y.M, Lib.hid (.inl HM0.out), Lib.hid (fun t ht => by have := HM0.out; omega), Z10, HB10⟩
    have d0 : decide ((0 : Int) < (y.nM : Int)) = true := by simp; omega
    obtain ⟨g, rfl, hg, lg, fr, hc⟩ : ∃ g, a9 = some ⟨g, 0, none⟩ ∧ Wb.heap.size ≤ g ∧ g < V10.heap.size ∧ (∀ k, V10.frozen? ⟨g, k, none⟩ = false) ∧ ∀ j, j < y.nM → V10.cell? ⟨g, j, none⟩ = some (.int .i64 (y.M j)) := by rcases row_of_ints HW10.out with h | h; exact absurd h hM0; exact h
    obtain ⟨q, em, ml⟩ : ∃ g : Nat, yr % (y.nM : Int) = g ∧ g < y.nM := ⟨(yr % (y.nM : Int)).toNat, by have := Int.emod_nonneg yr (show (y.nM : Int) ≠ 0 by omega); omega, by have := Int.emod_nonneg yr (show (y.nM : Int) ≠ 0 by omega); have := Int.emod_lt_of_pos yr (show 0 < (y.nM : Int) by omega); omega⟩
    have mli : (q : Int) < (y.nM : Int) := by omega
    have dn : ¬ (y.nM : Int) = 0 := by omega
    have cq := hc q ml
    have fq := fr q
    obtain ⟨mv, hmv⟩ : ∃ mv, y.M q = mv := ⟨_, rfl⟩
    rw [hmv] at cq
    have m8 := M8.out q ml
    rw [hmv] at m8
    have HMV := Lib.hid hmv
    have HC := Lib.hid hc
    clear hc fr hmv hM0
    go_upto_region 14 with (fail)
    rw [em]
    go_region
    go_wp2_with fail
    go_meet
    refine ⟨fun t => if t = q then min 8 (mv + 1) else y.M t, Lib.hid ((set_ints lg HC.out ml).below (Below.refl _ _).drew), Lib.hid (fun t ht => ?_), Lib.hid ?_, Lib.hid ?_⟩
    · have := M8.out t ht
      dsimp only
      by_cases e : t = q
      · subst e; rw [HMV.out, if_pos rfl]; omega
      · rw [if_neg e]; omega
    · exact ((grownBy_trans (grownBy_set V10 g q _) (grownBy_of_below (below_drew _) _)).block _ l10 (by simp; omega)).trans Z10.out
    · exact HB10.out.grown (grownBy_trans (grownBy_set V10 g q _) (grownBy_of_below (below_drew _) _)) HB10.out.size (fun b e => by cases e; omega)
  case rest =>
  obtain ⟨M, HM, HMR, HZw, HBw⟩ := hcut
  clear u1 l10 HW10 HB10 Z10
  as_aux_lemma =>
  have HYw := Lib.hid (show (y.wide a9 c9 M rm).In wc from ⟨HY.out.iR.below HBw.out, HM.out⟩)
  have HFw := Lib.hid (show (y.wide a9 c9 M rm).Fits from ⟨HFY.out.nR, HFY.out.nM⟩)
  have LBW := Lib.hid (wide_layB (a := a9) (c := c9) (M := M) (room := rm) HV.out.2 (fun t ht => (HMR.out t ht).2) (by have := RM.out; omega))
  have WCH := Lib.hid (fun (h : chE o y y.R = 0) => wide_ch (y' := y.wide a9 c9 M rm) h LBW.out rfl rfl RM.out.1 rfl (fun t ht => (HMR.out t ht).1))
  have CW := fun W (hb : Below wc.heap.size wc W) => Cheapest_any o (y.wide a9 c9 M rm) W (HO.out.below (thru hb HBw.out)) HF.out (HYw.out.below hb) HFw.out
  have FWw := fun W (hb : Below wc.heap.size wc W) => Fewest_any o (y.wide a9 c9 M rm) W (HO.out.below (thru hb HBw.out)) HF.out (HYw.out.below hb) HFw.out
  obtain ⟨sw, hsw⟩ : ∃ s, chS o (y.wide a9 c9 M rm) (y.wide a9 c9 M rm).R = s := ⟨_, rfl⟩
  obtain ⟨ew, hew⟩ : ∃ s, chE o (y.wide a9 c9 M rm) (y.wide a9 c9 M rm).R = s := ⟨_, rfl⟩
  obtain ⟨lw, hlw⟩ : ∃ s, chL o (y.wide a9 c9 M rm) (fun _ => 1) = s := ⟨_, rfl⟩
  obtain ⟨fw, hfw⟩ : ∃ s, chE o (y.wide a9 c9 M rm) (fun _ => 1) = s := ⟨_, rfl⟩
  obtain ⟨n9, hn9⟩ : ∃ n, (chL o (y.wide a9 c9 M rm) (y.wide a9 c9 M rm).R).length = n := ⟨_, rfl⟩
  simp only [hsw, hew, hn9] at CW
  simp only [hlw, hfw] at FWw
  obtain ⟨nw, hnw⟩ : ∃ n, lw.length = n := ⟨_, rfl⟩
  simp only [hnw] at FWw
  have WH := Lib.hid (show ev = 0 → ew = 0 ∧ fw = 0 ∧ sw ≤ s1 ∧ nw = y.nM ∧ n2 = y.nM ∧ costN (fun _ => 1) (lotF lw) y.nM ≤ costN (fun _ => 1) (lotF l2) y.nM ∧ (∀ t, t < y.nM → lotF l2 t ≤ y.M t) ∧ ∀ t, t < y.nM → lotF lw t ≤ M t from fun h => by have e := WCH.out (by rw [HEV.out]; exact h); rw [hew, hfw, hsw, HS1.out, hlw, hnw, HL2.out, HN2.out] at e; exact e)
  have HNW := Lib.hid hnw
  unfold Otl.val Lyg.val at CW FWw
  dsimp only [Lyg.wide] at CW FWw
  have CW := Lib.hid CW; have FWw := Lib.hid FWw
  clear hsw hew hlw hfw hn9 hnw
  have B0 := Lib.hid ((HBw.out.block _ la0).trans Z0.out)
  have B1 := Lib.hid ((HBw.out.block _ la1).trans Z1.out)
  have x00 : wc.cell? ⟨w.heap.size, 0, none⟩ = some (.slice o.aS o.nS o.cS) := cell_of_block B0.out 0 (by simp)
  have x01 : wc.cell? ⟨w.heap.size, 1, none⟩ = some (.int .i64 o.kl) := cell_of_block B0.out 1 (by simp)
  have x02 : wc.cell? ⟨w.heap.size, 2, none⟩ = some (.int .i64 o.kh) := cell_of_block B0.out 2 (by simp)
  have x03 : wc.cell? ⟨w.heap.size, 3, none⟩ = some (.slice o.aA o.nA o.cA) := cell_of_block B0.out 3 (by simp)
  have x04 : wc.cell? ⟨w.heap.size, 4, none⟩ = some (.slice o.aP o.nP o.cP) := cell_of_block B0.out 4 (by simp)
  have x10 : wc.cell? ⟨Wa.heap.size, 0, none⟩ = some (.slice y.aR y.nR y.cR) := cell_of_block HZw.out 0 (by simp)
  have x11 : wc.cell? ⟨Wa.heap.size, 1, none⟩ = some (.slice a9 y.nM c9) := cell_of_block HZw.out 1 (by simp)
  have x12 : wc.cell? ⟨Wa.heap.size, 2, none⟩ = some (.int .i64 y.lot) := cell_of_block HZw.out 2 (by simp)
  have x13 : wc.cell? ⟨Wa.heap.size, 3, none⟩ = some (.int .i64 rm) := cell_of_block HZw.out 3 (by simp)
  have lB0 := (Array.getElem?_eq_some_iff.1 B0.out).1
  have lB1 := (Array.getElem?_eq_some_iff.1 HZw.out).1
  go_wp2_with fail
  refine (CW.out wc (Below.refl _ _)).mono ?_
  rintro e w2 ⟨a3, q3, rfl, hr3, hb3⟩
  obtain ⟨z1b, rfl⟩ := gw_of_below hb3
  clear hr3 hb3
  go_wp2_with fail
  refine (FWw.out _ (below_gw wc z1b)).mono ?_
  rintro e w3 ⟨a4, q4, rfl, hr4, hb4⟩
  have I4 := Lib.hid (show IntsAt w3 a4 nw (lotF lw) from by have := hr4.ints; rw [HNW.out] at this; exact this)
  obtain ⟨z2b, rfl⟩ := gw_of_below (thru hb4 (below_gw wc z1b))
  clear hr4 hb4
  go_upto_region 17 with (fail)
  go_cut [147] (fun s147 wx => s147 = .bool false ∧ ∃ z, wx = gw wc z)
  case first =>
    rcases HEV2.out with h | h
    · obtain ⟨w1, w2, w3, w4, w5, w6, w7, w8⟩ := WH.out h
      have HW6 := Lib.hid w6; have HW7 := Lib.hid w7; have HW8 := Lib.hid w8
      have I2b := I2a.out.below HBw.out
      have I4b := I4.out
      rw [w5] at I2b
      rw [w4] at I4b
      have I2b := Lib.hid I2b; have I4b := Lib.hid I4b
      clear w6 w7 w8 I4
      subst w1
      subst w2
      subst h
      subst w4
      subst w5
      have S2 := fun W (hb : Below wc.heap.size wc W) => rsumI_any a2 y.nM q2 (lotF l2) W (I2b.out.below hb) (by omega) (fun i hi => ⟨lotF_pos _ _, Int.le_trans (HW7.out i hi) (M8.out i hi).2⟩)
      have S4 := fun W (hb : Below (gw wc z2b).heap.size (gw wc z2b) W) => rsumI_any a4 y.nM q4 (lotF lw) W (I4b.out.below hb) (by omega) (fun i hi => ⟨lotF_pos _ _, Int.le_trans (HW8.out i hi) (HMR.out i hi).2.2⟩)
      obtain ⟨u2, hu2⟩ : ∃ u, costN (fun _ => 1) (lotF l2) y.nM = u := ⟨_, rfl⟩
      obtain ⟨u4, hu4⟩ : ∃ u, costN (fun _ => 1) (lotF lw) y.nM = u := ⟨_, rfl⟩
      have h64 := HW6.out
      rw [hu2, hu4] at h64
      simp only [hu2] at S2
      simp only [hu4] at S4
      have S2 := Lib.hid S2; have S4 := Lib.hid S4
      have ds : decide (u2 < u4) = false := by simp; omega
      have dc : decide (s1 < sw) = false := by simp; omega
      clear hu2 hu4 h64
      go_wp2_with fail
      refine (S4.out _ (Below.refl _ _)).mono ?_
      rintro e w7 ⟨rfl, hb7⟩
      obtain ⟨z3b, rfl⟩ := gw_of_below (thru hb7 (below_gw wc z2b))
      clear hb7
      go_wp2_with fail
      refine (Calls.gw_of (S2.out _ (below_gw wc z3b))).mono ?_
      rintro e w8 ⟨rfl, z4b, rfl⟩
      go_wp2_with fail
      go_meet
      exact ⟨rfl, _, rfl⟩
    · have h5 := h
      subst h5
      go_wp2_with fail
      go_meet
      exact ⟨rfl, _, rfl⟩
  case rest =>
  obtain ⟨rfl, zc, hwc⟩ := hcut
  subst hwc
  obtain ⟨Wd, hWd⟩ : ∃ Wd, gw wc zc = Wd := ⟨_, rfl⟩
  have HBq := Lib.hid (show Below Wa.heap.size Wa Wd by rw [← hWd]; exact HBw.out.gw zc)
  rw [hWd]
  clear hWd WH WCH CW FWw I4 I2a LBW HYw HFw HMR HM HZw x00 x01 x02 x03 x04 x10 x11 x12 x13 lB0 lB1 B0 B1
  have HO2 := Lib.hid (HO.out.below HBq.out)
  have HY2 := Lib.hid (HY.out.below HBq.out)
  have HR2 := Lib.hid (HR.out.below HBq.out)
  have ZA := Lib.hid ((HBq.out.block _ la0).trans Z0.out)
  have ZB := Lib.hid ((HBq.out.block _ la1).trans Z1.out)
  have HBwd := Lib.hid (HBwa.out.trans (HBq.out.mono HBwa.out.size))
  have la := (Array.getElem?_eq_some_iff.1 ZA.out).1
  have lb := (Array.getElem?_eq_some_iff.1 ZB.out).1
  clear HO HY HR Z0 Z1 la0 la1 HBq HBw HBwa HBc
  as_aux_lemma =>
  have p00 : Wd.cell? ⟨w.heap.size, 0, none⟩ = some (.slice o.aS o.nS o.cS) := cell_of_block ZA.out 0 (by simp)
  have p01 : Wd.cell? ⟨w.heap.size, 1, none⟩ = some (.int .i64 o.kl) := cell_of_block ZA.out 1 (by simp)
  have p02 : Wd.cell? ⟨w.heap.size, 2, none⟩ = some (.int .i64 o.kh) := cell_of_block ZA.out 2 (by simp)
  have p03 : Wd.cell? ⟨w.heap.size, 3, none⟩ = some (.slice o.aA o.nA o.cA) := cell_of_block ZA.out 3 (by simp)
  have p04 : Wd.cell? ⟨w.heap.size, 4, none⟩ = some (.slice o.aP o.nP o.cP) := cell_of_block ZA.out 4 (by simp)
  go_upto_region 20 with (fail)
  obtain ⟨We, hWe⟩ : ∃ We, (Wd).alloc (.cells #[.slice o.aS o.nS o.cS, .int .i64 o.kl, .int .i64 o.kh, .slice o.aA o.nA o.cA, .slice o.aP o.nP o.cP] 27) = We := ⟨_, rfl⟩
  have hBe : Below Wd.heap.size Wd We := by rw [← hWe]; exact below_alloc _ _
  have ze0 : We.heap[Wd.heap.size]? = some (.cells #[.slice o.aS o.nS o.cS, .int .i64 o.kl, .int .i64 o.kh, .slice o.aA o.nA o.cA, .slice o.aP o.nP o.cP] 27 (0, 0)) := by rw [← hWe]; exact alloc_at rfl
  have e00 : We.cell? ⟨Wd.heap.size, 0, none⟩ = some (.slice o.aS o.nS o.cS) := cell_of_block ze0 0 (by simp)
  have e01 : We.cell? ⟨Wd.heap.size, 1, none⟩ = some (.int .i64 o.kl) := cell_of_block ze0 1 (by simp)
  have e02 : We.cell? ⟨Wd.heap.size, 2, none⟩ = some (.int .i64 o.kh) := cell_of_block ze0 2 (by simp)
  have e03 : We.cell? ⟨Wd.heap.size, 3, none⟩ = some (.slice o.aA o.nA o.cA) := cell_of_block ze0 3 (by simp)
  have e04 : We.cell? ⟨Wd.heap.size, 4, none⟩ = some (.slice o.aP o.nP o.cP) := cell_of_block ze0 4 (by simp)
  have le0 := (Array.getElem?_eq_some_iff.1 ze0).1
  have Ze0 := Lib.hid ze0
  clear ze0
  have HBe := Lib.hid hBe; clear hBe
  have HWe := Lib.hid hWe; clear hWe
  rw [HWe.out]
  clear e00 e01 e02 e03 e04 p00 p01 p02 p03 p04
  obtain ⟨t0, th, ty0, ty1, ty2⟩ := info_parts infoLL
  have TI := Lib.hid th; have T0 := Lib.hid ty0; have T1 := Lib.hid ty1; have T2 := Lib.hid ty2
  clear th ty0 ty1 ty2
  have B0 := Lib.hid ((HBe.out.block _ la).trans ZA.out)
  have B1 := Lib.hid ((HBe.out.block _ lb).trans ZB.out)
  have s00 : We.cell? ⟨w.heap.size, 0, none⟩ = some (.slice o.aS o.nS o.cS) := cell_of_block B0.out 0 (by simp)
  have s01 : We.cell? ⟨w.heap.size, 1, none⟩ = some (.int .i64 o.kl) := cell_of_block B0.out 1 (by simp)
  have s02 : We.cell? ⟨w.heap.size, 2, none⟩ = some (.int .i64 o.kh) := cell_of_block B0.out 2 (by simp)
  have s03 : We.cell? ⟨w.heap.size, 3, none⟩ = some (.slice o.aA o.nA o.cA) := cell_of_block B0.out 3 (by simp)
  have s04 : We.cell? ⟨w.heap.size, 4, none⟩ = some (.slice o.aP o.nP o.cP) := cell_of_block B0.out 4 (by simp)
  have s10 : We.cell? ⟨w.heap.size + 1, 0, none⟩ = some (.slice y.aR y.nR y.cR) := cell_of_block B1.out 0 (by simp)
  have s11 : We.cell? ⟨w.heap.size + 1, 1, none⟩ = some (.slice y.aM y.nM y.cM) := cell_of_block B1.out 1 (by simp)
  have s12 : We.cell? ⟨w.heap.size + 1, 2, none⟩ = some (.int .i64 y.lot) := cell_of_block B1.out 2 (by simp)
  have s13 : We.cell? ⟨w.heap.size + 1, 3, none⟩ = some (.int .i64 y.room) := cell_of_block B1.out 3 (by simp)
  have ls0 := (Array.getElem?_eq_some_iff.1 B0.out).1
  have ls1 := (Array.getElem?_eq_some_iff.1 B1.out).1
  have H := Lib.hid (cells_news ((HO2.out.iP.below HBe.out).below (below_alloc We (.cells #[Value.slice r.a r.n r.c] 32))))
  have OW : Hid ((We.alloc (.cells #[Value.slice r.a r.n r.c] 32)).ownsRow We.heap.size 32 1 (.slice (some ⟨We.heap.size, 0, none⟩) 1 1) 1 [.slice r.a r.n r.c]) := Lib.hid ⟨rfl, .inr ⟨We.heap.size, 1, #[.slice r.a r.n r.c], rfl, Nat.le_refl _, alloc_at rfl, Nat.le_refl _, by decide, rfl, rfl⟩⟩
  obtain ⟨m1, hm1⟩ : ∃ m, o.nP + 1 = m := ⟨_, rfl⟩
  have HM1 := Lib.hid hm1
  have m19 : m1 ≤ 9 := by omega
  go_upto_region 21 with (at_builtin; refine wpList_append_src (by rfl) _ _ 25 rfl We.heap.size 32 t0 (.slice none 0 0) 1 24 Try.underlying25 TI.out T0.out T1.out T2.out rfl (by decide) _ 1 [.slice r.a r.n r.c] rfl OW.out o.aP o.nP o.cP ((List.range o.nP).map fun i => .slice (o.pA i) (o.pN i) (o.pC i)) rfl (by simp) H.out (fun u hu => by simp only [List.mem_map] at hu; obtain ⟨j, _, rfl⟩ := hu; rfl) (by unfold maxLen; omega) (by omega) (by simp) ?_; intro v9 V9 hown9 hgrow9; rw [Nat.add_comm 1 o.nP, hm1] at hown9; have g9 : (We.alloc (.cells #[Value.slice r.a r.n r.c] 32)).grownBy V9 (Value.slice (some ⟨We.heap.size, 0, none⟩) 1 1).ownBlock := hgrow9; have B9 := Lib.hid ((below_alloc We (.cells #[Value.slice r.a r.n r.c] 32)).grown g9 (by simp) (fun b e => (OW.out.lt b e).1)); obtain ⟨a8, c8, rfl⟩ := own_form hown9; have ze9 := (B9.out.block _ le0).trans Ze0.out; have f9 := frozen_of_block ze9 4; have l9 := (Array.getElem?_eq_some_iff.1 ze9).1; have d9 := cell_of_block ze9 4 (by simp); have ZE9 := Lib.hid ze9; have HW9 := Lib.hid hown9; clear ze9 hown9 hgrow9 g9)
  obtain ⟨V8, hV8⟩ : ∃ V8, V9.setCell ⟨Wd.heap.size, 4, none⟩ (.slice a8 m1 c8) = V8 := ⟨_, rfl⟩
  have z8 : V8.heap[Wd.heap.size]? = some (.cells #[.slice o.aS o.nS o.cS, .int .i64 o.kl, .int .i64 o.kh, .slice o.aA o.nA o.cA, .slice a8 m1 c8] 27 (0, 0)) := by rw [← hV8]; exact block_set 4 _ ZE9.out
  have g8 : V9.grownBy V8 (some Wd.heap.size) := by rw [← hV8]; exact grownBy_set _ _ _ _
  have sze : Wd.heap.size < We.heap.size := le0
  have sz9 := B9.out.size
  have HB8 := Lib.hid ((HBe.out.trans (B9.out.mono (by omega))).grown g8 (by omega) (fun b e => by cases e; exact Nat.le_refl _))
  have ho8 := HW9.out.kept g8 (by cases h9 : (Value.slice a8 m1 c8).ownBlock with | none => exact .inl rfl | some b => (have := (HW9.out.lt b h9).1; exact .inr (fun e => by cases e; omega)))
  have HP8 : CellsAt V8 a8 (o.nP + 1) (fun i => .slice ((o.cons r a8 c8).pA i) ((o.cons r a8 c8).pN i) ((o.cons r a8 c8).pC i)) := by
    have e0 := range_cons o.nP (fun i => .slice (o.pA i) (o.pN i) (o.pC i)) (fun i => .slice ((o.cons r a8 c8).pA i) ((o.cons r a8 c8).pN i) ((o.cons r a8 c8).pC i)) (.slice r.a r.n r.c) rfl (fun i => rfl)
    rw [e0, HM1.out] at ho8
    have e := cells_of_own ho8
    rw [← HM1.out] at e
    exact e
  have HP8 := Lib.hid HP8
  have Z8 := Lib.hid z8
  rw [hV8]
  clear hV8 z8 g8 ho8 HW9 ZE9 f9 l9 d9 H OW B9 sz9 HWe HBe hm1 s00 s01 s02 s03 s04 s10 s11 s12 s13 ls0 ls1 B0 B1
  have CH1 := fun W (hb : Below V8.heap.size V8 W) => Cheapest_any (o.cons r a8 c8) y W ((cons_in (HO2.out.below HB8.out) (HR2.out.below HB8.out) HP8.out).below hb) (cons_fits HF.out HR2.out nP8) (HY2.out.below (thru hb HB8.out)) HFY.out
  have FC := fun h => find_cons (o := o) (y := y) (r := r) (a := a8) (c := c8) HV.out.1 HV.out.2 h
  have E3 := ch_three (o.cons r a8 c8) y y.R
  obtain ⟨s3, hs3⟩ : ∃ s, chS (o.cons r a8 c8) y y.R = s := ⟨_, rfl⟩
  obtain ⟨e3, he3⟩ : ∃ s, chE (o.cons r a8 c8) y y.R = s := ⟨_, rfl⟩
  obtain ⟨n3, hn3⟩ : ∃ n, (chL (o.cons r a8 c8) y y.R).length = n := ⟨_, rfl⟩
  simp only [hs3, he3, hn3] at CH1 FC E3
  have FC2 := Lib.hid (show e3 = 0 → ev = 0 ∧ s1 ≤ s3 from fun h => by obtain ⟨x, f1, f2⟩ := FC h; have c1 := ch_some HV.out f1; rw [HEV.out, HS1.out] at c1; exact ⟨c1.1, by rw [c1.2.2]; exact f2⟩)
  have E3 := Lib.hid E3
  unfold Otl.val Lyg.val at CH1
  dsimp only [Otl.cons] at CH1
  rw [HM1.out] at CH1
  have CH1 := Lib.hid CH1
  clear FC hs3 he3 hn3
  have B0 := Lib.hid ((HB8.out.block _ la).trans ZA.out)
  have B1 := Lib.hid ((HB8.out.block _ lb).trans ZB.out)
  have t00 : V8.cell? ⟨w.heap.size, 0, none⟩ = some (.slice o.aS o.nS o.cS) := cell_of_block B0.out 0 (by simp)
  have t01 : V8.cell? ⟨w.heap.size, 1, none⟩ = some (.int .i64 o.kl) := cell_of_block B0.out 1 (by simp)
  have t02 : V8.cell? ⟨w.heap.size, 2, none⟩ = some (.int .i64 o.kh) := cell_of_block B0.out 2 (by simp)
  have t03 : V8.cell? ⟨w.heap.size, 3, none⟩ = some (.slice o.aA o.nA o.cA) := cell_of_block B0.out 3 (by simp)
  have t04 : V8.cell? ⟨w.heap.size, 4, none⟩ = some (.slice o.aP o.nP o.cP) := cell_of_block B0.out 4 (by simp)
  have t10 : V8.cell? ⟨w.heap.size + 1, 0, none⟩ = some (.slice y.aR y.nR y.cR) := cell_of_block B1.out 0 (by simp)
  have t11 : V8.cell? ⟨w.heap.size + 1, 1, none⟩ = some (.slice y.aM y.nM y.cM) := cell_of_block B1.out 1 (by simp)
  have t12 : V8.cell? ⟨w.heap.size + 1, 2, none⟩ = some (.int .i64 y.lot) := cell_of_block B1.out 2 (by simp)
  have t13 : V8.cell? ⟨w.heap.size + 1, 3, none⟩ = some (.int .i64 y.room) := cell_of_block B1.out 3 (by simp)
  have lt0 := (Array.getElem?_eq_some_iff.1 B0.out).1
  have lt1 := (Array.getElem?_eq_some_iff.1 B1.out).1
  have q00 : V8.cell? ⟨Wd.heap.size, 0, none⟩ = some (.slice o.aS o.nS o.cS) := cell_of_block Z8.out 0 (by simp)
  have q01 : V8.cell? ⟨Wd.heap.size, 1, none⟩ = some (.int .i64 o.kl) := cell_of_block Z8.out 1 (by simp)
  have q02 : V8.cell? ⟨Wd.heap.size, 2, none⟩ = some (.int .i64 o.kh) := cell_of_block Z8.out 2 (by simp)
  have q03 : V8.cell? ⟨Wd.heap.size, 3, none⟩ = some (.slice o.aA o.nA o.cA) := cell_of_block Z8.out 3 (by simp)
  have q04 : V8.cell? ⟨Wd.heap.size, 4, none⟩ = some (.slice a8 m1 c8) := cell_of_block Z8.out 4 (by simp)
  have lq0 := (Array.getElem?_eq_some_iff.1 Z8.out).1
  go_wp2_with fail
  refine (CH1.out V8 (Below.refl _ _)).mono ?_
  rintro e w2 ⟨a5, q5, rfl, hr5, hb5⟩
  obtain ⟨zf, rfl⟩ := gw_of_below hb5
  clear hr5 hb5
  go_upto_region 22 with (fail)
  go_cut [184] (fun s184 wx => s184 = .bool false ∧ wx = gw V8 zf)
  case first =>
    rcases E3.out with h | h | h
    · obtain ⟨v1, v2⟩ := FC2.out h
      have ds : decide (s3 < s1) = false := by simp; omega
      clear v2
      subst h
      subst v1
      go_wp2_with fail
      go_meet
      exact ⟨rfl, rfl⟩
    · subst h
      go_wp2_with fail
      go_meet
      exact ⟨rfl, rfl⟩
    · subst h
      go_wp2_with fail
      go_meet
      exact ⟨rfl, rfl⟩
  case rest =>
  obtain ⟨rfl, hwc⟩ := hcut
  subst hwc
  obtain ⟨Wf, hWf⟩ : ∃ Wf, gw V8 zf = Wf := ⟨_, rfl⟩
  have HBf := Lib.hid (show Below Wd.heap.size Wd Wf by rw [← hWf]; exact HB8.out.gw zf)
  rw [hWf]
  clear hWf CH1 FC2 E3 HP8 Z8 HB8 q00 q01 q02 q03 q04 lq0 t00 t01 t02 t03 t04 t10 t11 t12 t13 lt0 lt1 B0 B1
  have HO3 := Lib.hid (HO2.out.below HBf.out)
  have HY3 := Lib.hid (HY2.out.below HBf.out)
  have ZC := Lib.hid ((HBf.out.block _ la).trans ZA.out)
  have ZD := Lib.hid ((HBf.out.block _ lb).trans ZB.out)
  have HBwf := Lib.hid (HBwd.out.trans (HBf.out.mono HBwd.out.size))
  have lc := (Array.getElem?_eq_some_iff.1 ZC.out).1
  have ld := (Array.getElem?_eq_some_iff.1 ZD.out).1
  clear HO2 HY2 HR2 ZA ZB la lb HBf HBwd
  as_aux_lemma =>
  have p00 : Wf.cell? ⟨w.heap.size, 0, none⟩ = some (.slice o.aS o.nS o.cS) := cell_of_block ZC.out 0 (by simp)
  have p01 : Wf.cell? ⟨w.heap.size, 1, none⟩ = some (.int .i64 o.kl) := cell_of_block ZC.out 1 (by simp)
  have p02 : Wf.cell? ⟨w.heap.size, 2, none⟩ = some (.int .i64 o.kh) := cell_of_block ZC.out 2 (by simp)
  have p03 : Wf.cell? ⟨w.heap.size, 3, none⟩ = some (.slice o.aA o.nA o.cA) := cell_of_block ZC.out 3 (by simp)
  have p04 : Wf.cell? ⟨w.heap.size, 4, none⟩ = some (.slice o.aP o.nP o.cP) := cell_of_block ZC.out 4 (by simp)
  go_upto_region 26 with (fail)
  obtain ⟨Wg, hWg⟩ : ∃ Wg, (Wf).alloc (.cells #[.slice o.aS o.nS o.cS, .int .i64 o.kl, .int .i64 o.kh, .slice o.aA o.nA o.cA, .slice none 0 0] 27) = Wg := ⟨_, rfl⟩
  have hBg : Below Wf.heap.size Wf Wg := by rw [← hWg]; exact below_alloc _ _
  have zg0 : Wg.heap[Wf.heap.size]? = some (.cells #[.slice o.aS o.nS o.cS, .int .i64 o.kl, .int .i64 o.kh, .slice o.aA o.nA o.cA, .slice none 0 0] 27 (0, 0)) := by rw [← hWg]; exact alloc_at rfl
  have g00 : Wg.cell? ⟨Wf.heap.size, 0, none⟩ = some (.slice o.aS o.nS o.cS) := cell_of_block zg0 0 (by simp)
  have g01 : Wg.cell? ⟨Wf.heap.size, 1, none⟩ = some (.int .i64 o.kl) := cell_of_block zg0 1 (by simp)
  have g02 : Wg.cell? ⟨Wf.heap.size, 2, none⟩ = some (.int .i64 o.kh) := cell_of_block zg0 2 (by simp)
  have g03 : Wg.cell? ⟨Wf.heap.size, 3, none⟩ = some (.slice o.aA o.nA o.cA) := cell_of_block zg0 3 (by simp)
  have g04 : Wg.cell? ⟨Wf.heap.size, 4, none⟩ = some (.slice none 0 0) := cell_of_block zg0 4 (by simp)
  have lg0 := (Array.getElem?_eq_some_iff.1 zg0).1
  have Zg0 := Lib.hid zg0
  clear zg0
  have HBg := Lib.hid hBg; clear hBg
  have HWg := Lib.hid hWg; clear hWg
  rw [HWg.out]
  clear g00 g01 g02 g03 g04 p00 p01 p02 p03 p04
  have B0 := Lib.hid ((HBg.out.block _ lc).trans ZC.out)
  have x04 : Wg.cell? ⟨w.heap.size, 4, none⟩ = some (.slice o.aP o.nP o.cP) := cell_of_block B0.out 4 (by simp)
  have lx0 := (Array.getElem?_eq_some_iff.1 B0.out).1
  go_wp2_with fail
  clear x04 lx0 B0
  go_loopw [28] (fun s28 wr => ∃ (j : Nat) (ab : Option Addr) (cb : Nat), j ≤ o.nP ∧ s28 = .int .i64 ((o.nP : Int) - 1 - j) ∧ Hid (wr.ownsRow Wg.heap.size 32 1 (.slice ab j cb) j ((List.range j).map fun i => .slice (o.pA (o.nP - 1 - i)) (o.pN (o.nP - 1 - i)) (o.pC (o.nP - 1 - i)))) ∧ Hid (wr.heap[Wf.heap.size]? = some (.cells #[.slice o.aS o.nS o.cS, .int .i64 o.kl, .int .i64 o.kh, .slice o.aA o.nA o.cA, .slice ab j cb] 27 (0, 0))) ∧ Hid (Below Wf.heap.size Wf wr) ∧ Hid (Wg.heap.size ≤ wr.heap.size)) (fun s28 _ => (intOf s28 + 1).toNat)
  case atStart => exact ⟨0, none, 0, Nat.zero_le _, by go_num, Lib.hid (World.ownsRow_nil _ _ _ _), Zg0, HBg, Lib.hid (Nat.le_refl _)⟩
  case round =>
    obtain ⟨j, ab, cb, hj, rfl, HW, HZ, HB, HWR⟩ := hrel
    have B0 := Lib.hid ((HB.out.block _ lc).trans ZC.out)
    have x04 : wr.cell? ⟨w.heap.size, 4, none⟩ = some (.slice o.aP o.nP o.cP) := cell_of_block B0.out 4 (by simp)
    have lx0 := (Array.getElem?_eq_some_iff.1 B0.out).1
    have x14 : wr.cell? ⟨Wf.heap.size, 4, none⟩ = some (.slice ab j cb) := cell_of_block HZ.out 4 (by simp)
    have fx4 := frozen_of_block HZ.out 4
    have lx1 := (Array.getElem?_eq_some_iff.1 HZ.out).1
    by_cases hlt : j < o.nP
    · rcases HO3.out.iP with h0 | ⟨bP, oP, eP, lP, hcP⟩
      · omega
      obtain ⟨q, hq⟩ : ∃ q, o.nP - 1 - j = q := ⟨_, rfl⟩
      have hqi : (o.nP : Int) - 1 - j = (q : Int) := by omega
      have hqn : q < o.nP := by omega
      have xP := (HB.out.cell (p := ⟨bP, oP + q, none⟩) lP).trans (hcP q hqn)
      try dsimp only at xP
      have lP2 : bP < wr.heap.size := Nat.lt_of_lt_of_le lP HB.out.size
      rw [eP] at x04
      have hqn2 : (q : Int) < (o.nP : Int) := by omega
      have HQ := Lib.hid hq
      have HLT := Lib.hid hlt
      have HQI := Lib.hid hqi
      rw [hqi]
      clear hq hcP eP hqi
      have sw := HB.out.size
      have szf : Wf.heap.size < Wg.heap.size := lg0
      have HN4 := Lib.hid (news_lit wr [Value.slice (o.pA q) (o.pN q) (o.pC q)] 32)
      go_wp2_with fail
      haveI hne : Nonempty (KeepW wr [w.heap.size, bP]) := ⟨⟨wr, fun _ _ => rfl⟩⟩
      refine wp_region_plan (fun w' => ∃ x : KeepW wr [w.heap.size, bP], w' = x.w) (.fork [0, 2, 3, 4, 5, 6] 1 7 (.step [] 7 (.step [] 8 (.step [9] 10 (.last [])))) (.step [] 1 (.step [] 8 (.step [9] 10 (.last []))))) (by kernel_rfl) (by kernel_rfl) ?_
      rintro _ ⟨x1, rfl⟩
      refine ⟨keep2 (gw_block wr x1 _ lx0) (gw_block wr x1 _ lP2), ?_⟩
      refine wpPlan_fork ?_
      simp only [pickL, List.getElem?_cons_zero, List.getElem?_cons_succ]
      repeat (go_big_quiet_step (fail))
      refine wpQuiet_nil ?_
      obtain ⟨V0, hV0⟩ : ∃ V0, gw wr x1 = V0 := ⟨_, rfl⟩
      have HB0 := Lib.hid (show Below wr.heap.size wr V0 by rw [← hV0]; exact below_gw wr x1)
      rw [hV0]
      clear hV0 HN4 x14 fx4
      have s0 := HB0.out.size
      have sg := HBg.out.size
      obtain ⟨V1, hV1⟩ : ∃ V1, V0.alloc (.cells #[Value.slice (o.pA q) (o.pN q) (o.pC q)] 32) = V1 := ⟨_, rfl⟩
      have HA := Lib.hid (show Below wr.heap.size wr V1 by rw [← hV1]; exact HB0.out.alloc s0 _)
      have HOA := Lib.hid (own_below HW.out HA.out)
      have HN4 := Lib.hid (show ∀ (i : Nat) (u : Value), [Value.slice (o.pA q) (o.pN q) (o.pC q)][i]? = some u → V1.cell? ((⟨V0.heap.size, 0, none⟩ : Addr).add i) = some u by rw [← hV1]; exact news_lit V0 _ _)
      have HV1 := Lib.hid hV1
      clear hV1
      have hwg : Wg.heap.size ≤ wr.heap.size := HWR.out
      have zA := Lib.hid ((HA.out.block _ lx1).trans HZ.out)
      have zV := Lib.hid ((HB0.out.block _ lx1).trans HZ.out)
      have szw : w.heap.size < Wg.heap.size := Nat.lt_of_lt_of_le lc sg
      have szP : bP < Wg.heap.size := Nat.lt_of_lt_of_le lP sg
      refine ⟨?_, ?_⟩
      · have neW : w.heap.size ≠ Wf.heap.size := by omega
        have neP : bP ≠ Wf.heap.size := by omega
        have x14 : V0.cell? ⟨Wf.heap.size, 4, none⟩ = some (.slice ab j cb) := cell_of_block zV.out 4 (by simp)
        have ly1 := (Array.getElem?_eq_some_iff.1 zV.out).1
        go_wp2_with fail
        refine contQ_now ⟨keep2 (HB0.out.block _ lx0) (HB0.out.block _ lP2), ?_⟩
        clear x14 ly1
        refine wpPlan_step ?_
        simp only [pickL, List.getElem?_cons_zero, List.getElem?_cons_succ]
        refine wpQuiet_nil ?_
        go_wp2_with fail
        rw [HV1.out]
        refine contQ_now ⟨keep2 (HA.out.block _ lx0) (HA.out.block _ lP2), ?_⟩
        refine wpPlan_step ?_
        simp only [pickL, List.getElem?_cons_zero, List.getElem?_cons_succ]
        refine wpQuiet_nil ?_
        go_wp2_with (at_builtin; refine wpList_append_own_at _ rfl _ _ 25 rfl Wg.heap.size 32 t0 (.slice none 0 0) 1 24 Try.underlying25 TI.out T0.out T1.out T2.out rfl (by decide) _ j ((List.range j).map fun i => .slice (o.pA (o.nP - 1 - i)) (o.pN (o.nP - 1 - i)) (o.pC (o.nP - 1 - i))) rfl HOA.out ⟨V0.heap.size, 0, none⟩ 1 1 [.slice (o.pA q) (o.pN q) (o.pC q)] rfl rfl HN4.out (by simp [Value.oneCell']) (by unfold maxLen; omega) (by omega) (by have := HA.out.size; omega) ?_; intro v9 V9 hown9 hgrow9 _ hat9; have g9 : V1.grownBy V9 (Value.slice ab j cb).ownBlock := hgrow9; have nb : some Wf.heap.size ≠ (Value.slice ab j cb).ownBlock := (fun e => by have := (HOA.out.lt _ e.symm).1; omega); have zf9 := (g9.block _ (Array.getElem?_eq_some_iff.1 zA.out).1 nb).trans zA.out; have B9 := Lib.hid ((HB.out.trans (HA.out.mono sw)).grown g9 (by have := HA.out.size; omega) (fun b e => by have := (HOA.out.lt b e).1; omega)); obtain ⟨a9, c9, rfl⟩ := own_form hown9; have f9 := frozen_of_block zf9 4; have l9 := (Array.getElem?_eq_some_iff.1 zf9).1; have d9 := cell_of_block zf9 4 (by simp); have ZF9 := Lib.hid zf9; have HW9 := Lib.hid hown9; have SG9 := Lib.hid g9.size; have kb9 := Lib.hid (fun (b : Nat) (h1 : b < Wg.heap.size) (h2 : b < wr.heap.size) => (g9.block b (Nat.lt_of_lt_of_le h2 HA.out.size) (fun e => by have := (HOA.out.lt _ e.symm).1; omega)).trans (HA.out.block b h2)); clear zf9 hown9 hgrow9 g9 nb hat9)
        refine contQ_now ⟨keep2 (kb9.out _ szw lx0) (kb9.out _ szP lP2), ?_⟩
        refine wpPlan_step ?_
        simp only [pickL, List.getElem?_cons_zero, List.getElem?_cons_succ]
        repeat (go_big_quiet_step (fail))
        refine wpQuiet_nil ?_
        go_wp2_with fail
        refine contQ_now ⟨keep2 ((Below.heap_setCell V9 ⟨Wf.heap.size, 4, none⟩ _ _ (by simp <;> omega)).trans (kb9.out _ szw lx0)) ((Below.heap_setCell V9 ⟨Wf.heap.size, 4, none⟩ _ _ (by simp <;> omega)).trans (kb9.out _ szP lP2)), ?_⟩
        refine wpPlan_last ?_
        simp only [pickL, List.getElem?_cons_zero, List.getElem?_cons_succ]
        refine wpQuiet_nil ?_
        refine contN_nil ?_
        go_wp2_with fail
        have g10 := grownBy_set V9 Wf.heap.size 4 (.slice a9 (j + 1) c9)
        have hj1 : (List.range j).map (fun i => Value.slice (o.pA (o.nP - 1 - i)) (o.pN (o.nP - 1 - i)) (o.pC (o.nP - 1 - i))) ++ [Value.slice (o.pA q) (o.pN q) (o.pC q)] = (List.range (j + 1)).map (fun i => Value.slice (o.pA (o.nP - 1 - i)) (o.pN (o.nP - 1 - i)) (o.pC (o.nP - 1 - i))) := by rw [List.range_succ, List.map_append, ← HQ.out]; rfl
        have o10 := HW9.out.kept g10 (by cases h9 : (Value.slice a9 (j + 1) c9).ownBlock with | none => exact .inl rfl | some b => (have := (HW9.out.lt b h9).1; exact .inr (fun e => by cases e; omega)))
        rw [hj1] at o10
        have O10 := Lib.hid o10
        have Z10 := Lib.hid (block_set 4 (.slice a9 (j + 1) c9) ZF9.out)
        have B10 := Lib.hid (B9.out.grown g10 B9.out.size (fun b e => by cases e; exact Nat.le_refl _))
        have W10 := Lib.hid (show Wg.heap.size ≤ (V9.setCell ⟨Wf.heap.size, 4, none⟩ (.slice a9 (j + 1) c9)).heap.size by have a := g10.size; have b := SG9.out; have c := HA.out.size; omega)
        clear hj1 o10 g10
        go_roundw
        case rel => exact ⟨j + 1, a9, c9, HLT.out, by have := HQI.out; go_num, O10, Z10, B10, W10⟩
        case measure => have := HQI.out; simp only [intOf]; omega
      · have neW : w.heap.size ≠ Wf.heap.size := by omega
        have neP : bP ≠ Wf.heap.size := by omega
        go_wp2_with fail
        rw [HV1.out]
        refine contQ_now ⟨keep2 (HA.out.block _ lx0) (HA.out.block _ lP2), ?_⟩
        refine wpPlan_step ?_
        simp only [pickL, List.getElem?_cons_zero, List.getElem?_cons_succ]
        refine wpQuiet_nil ?_
        have x14 : V1.cell? ⟨Wf.heap.size, 4, none⟩ = some (.slice ab j cb) := cell_of_block zA.out 4 (by simp)
        have ly1 := (Array.getElem?_eq_some_iff.1 zA.out).1
        go_wp2_with fail
        refine contQ_now ⟨keep2 (HA.out.block _ lx0) (HA.out.block _ lP2), ?_⟩
        clear x14 ly1
        refine wpPlan_step ?_
        simp only [pickL, List.getElem?_cons_zero, List.getElem?_cons_succ]
        refine wpQuiet_nil ?_
        go_wp2_with (at_builtin; refine wpList_append_own_at _ rfl _ _ 25 rfl Wg.heap.size 32 t0 (.slice none 0 0) 1 24 Try.underlying25 TI.out T0.out T1.out T2.out rfl (by decide) _ j ((List.range j).map fun i => .slice (o.pA (o.nP - 1 - i)) (o.pN (o.nP - 1 - i)) (o.pC (o.nP - 1 - i))) rfl HOA.out ⟨V0.heap.size, 0, none⟩ 1 1 [.slice (o.pA q) (o.pN q) (o.pC q)] rfl rfl HN4.out (by simp [Value.oneCell']) (by unfold maxLen; omega) (by omega) (by have := HA.out.size; omega) ?_; intro v9 V9 hown9 hgrow9 _ hat9; have g9 : V1.grownBy V9 (Value.slice ab j cb).ownBlock := hgrow9; have nb : some Wf.heap.size ≠ (Value.slice ab j cb).ownBlock := (fun e => by have := (HOA.out.lt _ e.symm).1; omega); have zf9 := (g9.block _ (Array.getElem?_eq_some_iff.1 zA.out).1 nb).trans zA.out; have B9 := Lib.hid ((HB.out.trans (HA.out.mono sw)).grown g9 (by have := HA.out.size; omega) (fun b e => by have := (HOA.out.lt b e).1; omega)); obtain ⟨a9, c9, rfl⟩ := own_form hown9; have f9 := frozen_of_block zf9 4; have l9 := (Array.getElem?_eq_some_iff.1 zf9).1; have d9 := cell_of_block zf9 4 (by simp); have ZF9 := Lib.hid zf9; have HW9 := Lib.hid hown9; have SG9 := Lib.hid g9.size; have kb9 := Lib.hid (fun (b : Nat) (h1 : b < Wg.heap.size) (h2 : b < wr.heap.size) => (g9.block b (Nat.lt_of_lt_of_le h2 HA.out.size) (fun e => by have := (HOA.out.lt _ e.symm).1; omega)).trans (HA.out.block b h2)); clear zf9 hown9 hgrow9 g9 nb hat9)
        refine contQ_now ⟨keep2 (kb9.out _ szw lx0) (kb9.out _ szP lP2), ?_⟩
        refine wpPlan_step ?_
        simp only [pickL, List.getElem?_cons_zero, List.getElem?_cons_succ]
        repeat (go_big_quiet_step (fail))
        refine wpQuiet_nil ?_
        go_wp2_with fail
        refine contQ_now ⟨keep2 ((Below.heap_setCell V9 ⟨Wf.heap.size, 4, none⟩ _ _ (by simp <;> omega)).trans (kb9.out _ szw lx0)) ((Below.heap_setCell V9 ⟨Wf.heap.size, 4, none⟩ _ _ (by simp <;> omega)).trans (kb9.out _ szP lP2)), ?_⟩
        refine wpPlan_last ?_
        simp only [pickL, List.getElem?_cons_zero, List.getElem?_cons_succ]
        refine wpQuiet_nil ?_
        refine contN_nil ?_
        go_wp2_with fail
        have g10 := grownBy_set V9 Wf.heap.size 4 (.slice a9 (j + 1) c9)
        have hj1 : (List.range j).map (fun i => Value.slice (o.pA (o.nP - 1 - i)) (o.pN (o.nP - 1 - i)) (o.pC (o.nP - 1 - i))) ++ [Value.slice (o.pA q) (o.pN q) (o.pC q)] = (List.range (j + 1)).map (fun i => Value.slice (o.pA (o.nP - 1 - i)) (o.pN (o.nP - 1 - i)) (o.pC (o.nP - 1 - i))) := by rw [List.range_succ, List.map_append, ← HQ.out]; rfl
        have o10 := HW9.out.kept g10 (by cases h9 : (Value.slice a9 (j + 1) c9).ownBlock with | none => exact .inl rfl | some b => (have := (HW9.out.lt b h9).1; exact .inr (fun e => by cases e; omega)))
        rw [hj1] at o10
        have O10 := Lib.hid o10
        have Z10 := Lib.hid (block_set 4 (.slice a9 (j + 1) c9) ZF9.out)
        have B10 := Lib.hid (B9.out.grown g10 B9.out.size (fun b e => by cases e; exact Nat.le_refl _))
        have W10 := Lib.hid (show Wg.heap.size ≤ (V9.setCell ⟨Wf.heap.size, 4, none⟩ (.slice a9 (j + 1) c9)).heap.size by have a := g10.size; have b := SG9.out; have c := HA.out.size; omega)
        clear hj1 o10 g10
        go_roundw
        case rel => exact ⟨j + 1, a9, c9, HLT.out, by have := HQI.out; go_num, O10, Z10, B10, W10⟩
        case measure => have := HQI.out; simp only [intOf]; omega
    · have hjn : j = o.nP := by omega
      have e1 := cells_of_own HW.out
      have HJN := Lib.hid hjn
      obtain ⟨V, rfl⟩ : ∃ V, V = wr := ⟨_, rfl⟩
      have HP4 := Lib.hid (show CellsAt V ab o.nP (fun i => .slice ((o.rev ab cb).pA i) ((o.rev ab cb).pN i) ((o.rev ab cb).pC i)) by rw [HJN.out] at e1; exact e1)
      clear e1
      have CH4 := Cheapest_any (o.rev ab cb) y V (rev_in (HO3.out.below HB.out) HP4.out) (rev_fits HF.out) (HY3.out.below HB.out) HFY.out
      have rc := rev_ch (a := ab) (c := cb) HV.out.1 HV.out.2
      rw [HEV.out, HS1.out] at rc
      rw [rc.1, rc.2] at CH4
      obtain ⟨n4, hn4⟩ : ∃ n, (chL (o.rev ab cb) y y.R).length = n := ⟨_, rfl⟩
      simp only [hn4] at CH4
      unfold Otl.val Lyg.val at CH4
      dsimp only [Otl.rev] at CH4
      have CH4 := Lib.hid CH4
      clear rc hn4 hjn
      have B1 := Lib.hid ((HB.out.block _ ld).trans ZD.out)
      have x10 : V.cell? ⟨w.heap.size + 1, 0, none⟩ = some (.slice y.aR y.nR y.cR) := cell_of_block B1.out 0 (by simp)
      have x11 : V.cell? ⟨w.heap.size + 1, 1, none⟩ = some (.slice y.aM y.nM y.cM) := cell_of_block B1.out 1 (by simp)
      have x12 : V.cell? ⟨w.heap.size + 1, 2, none⟩ = some (.int .i64 y.lot) := cell_of_block B1.out 2 (by simp)
      have x13 : V.cell? ⟨w.heap.size + 1, 3, none⟩ = some (.int .i64 y.room) := cell_of_block B1.out 3 (by simp)
      have lx9 := (Array.getElem?_eq_some_iff.1 B1.out).1
      have hz := HZ.out
      rw [HJN.out] at hz
      clear x14
      have x50 : V.cell? ⟨Wf.heap.size, 0, none⟩ = some (.slice o.aS o.nS o.cS) := cell_of_block hz 0 (by simp)
      have x51 : V.cell? ⟨Wf.heap.size, 1, none⟩ = some (.int .i64 o.kl) := cell_of_block hz 1 (by simp)
      have x52 : V.cell? ⟨Wf.heap.size, 2, none⟩ = some (.int .i64 o.kh) := cell_of_block hz 2 (by simp)
      have x53 : V.cell? ⟨Wf.heap.size, 3, none⟩ = some (.slice o.aA o.nA o.cA) := cell_of_block hz 3 (by simp)
      have x54 : V.cell? ⟨Wf.heap.size, 4, none⟩ = some (.slice ab o.nP cb) := cell_of_block hz 4 (by simp)
      clear hz x04 lx0 B0
      have dk : decide ((0 : Int) ≤ (o.nP : Int) - 1 - (j : Int)) = false := by have := HJN.out; simp; omega
      have dk2 : ¬ (0 : Int) ≤ (o.nP : Int) - 1 - (j : Int) := by have := HJN.out; omega
      go_wp2_with fail
      refine CH4.out.mono ?_
      rintro e w5 ⟨a6, q6, rfl, hr6, hb6⟩
      obtain ⟨zg, rfl⟩ := gw_of_below hb6
      clear hr6 hb6
      go_wp2_with fail
      refine (Calls.gw_of (awake_any (gw V zg))).mono ?_
      rintro e w9 ⟨rfl, z9, rfl⟩
      go_wp2_with fail
      go_ret
      exact ⟨rfl, HBwf.out.trans ((HB.out.gw z9).mono HBwf.out.size)⟩
end Go.Proofs.Ytdcpgjepgajioaa
