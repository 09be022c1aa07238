/- Contract of the iterator of years. No conditions beyond each theorem's own. -/
import Derived.Test.YtdcpgjepgajioaaBi
import Derived.Test.YtdcpgjepgajioaaAf
import Derived.Sort.CutIn
set_option linter.unusedVariables false
set_option linter.unusedSimpArgs false
set_option linter.unusedSectionVars false
set_option linter.constructorNameAsVariable false
namespace Go.Proofs.Ytdcpgjepgajioaa
open Go.RowKit Go.Shelf

attribute [local go_sem] gw_cell gw_frozen gw_size

/-- a world in which some blocks are as they are in W -/
structure KeepW (W : World) (L : List Nat) where
  w : World
  h : ∀ b, b ∈ L → w.heap[b]? = W.heap[b]?
theorem keepW_cell {W : World} {L : List Nat} (x : KeepW W L) {b o : Nat} (hb : b ∈ L) : x.w.cell? ⟨b, o, none⟩ = W.cell? ⟨b, o, none⟩ := by
  simp [World.cell?, x.h b hb]
theorem CelAt.same {w w' : World} {b o : Nat} {c : List Int} (h : CelAt w b o c) (hb : w'.heap[b]? = w.heap[b]?) : CelAt w' b o c :=
  ⟨h.len, fun j hj => (World.cell?_of_block (a := ⟨b, o + j, none⟩) hb).trans (h.cell j hj), fun k => (World.frozen?_of_block (a := ⟨b, k, none⟩) hb).trans (h.free k)⟩
section
variable {F : Fence} {n : Nat} {ops : Array Oper} {rest : List Oper} {o : Oper} {a : Act} {w : World} {Q : Exit → Act → World → Prop}
theorem wpListIn_load_cel (hgd : o.guard = none) (x : Operand) (ho : o.op = .load 74 x) (g off : Nat) (hx : a.eval x = .pointer (some ⟨g, off, none⟩)) {c : List Int} (h : CelAt w g off c)
    (hk : wpListIn F n Try.prog ops Q rest (a.put o.dst (cellV c)) w) : wpListIn F n Try.prog ops Q (o :: rest) a w := by
  refine wpListIn_plain hgd fun K hK => ?_
  unfold Oper.wpIn
  refine ⟨?_, ?_⟩
  · simp [Oper.about, ho]
  · rw [Oper.semAt_plain F _ _ (by rw [ho]; intro c hc'; cases hc')]
    simp only [execOp, ho, hx, Instr.loadAt, Instr.sureAddr, Sem.run_bind, Sem.run_pure, Result.andThen_ok, run_loadVar_cel h]
    exact hK _ _ hk
theorem wpListIn_store_cel (hgd : o.guard = none) (x y : Operand) (ho : o.op = .store 74 x y) (g off : Nat) {c c' : List Int} (hx : a.eval x = .pointer (some ⟨g, off, none⟩)) (hy : a.eval y = cellV c') (h : CelAt w g off c) (hl : c'.length = 32)
    (hk : wpListIn F n Try.prog ops Q rest (a.put o.dst undef) (w.setCells g off (cV c'))) : wpListIn F n Try.prog ops Q (o :: rest) a w := by
  refine wpListIn_plain hgd fun K hK => ?_
  unfold Oper.wpIn
  refine ⟨?_, ?_⟩
  · simp [Oper.about, ho]
  · rw [Oper.semAt_plain F _ _ (by rw [ho]; intro c hc'; cases hc')]
    simp only [execOp, ho, hx, hy, Instr.storeAt, Instr.sureAddr, Sem.run_bind, Sem.run_pure, Result.andThen_ok, run_storeVar_cel h hl]
    exact hK _ _ hk
end
attribute [local go_sem] Oper.semAt_some keepW_cell
/-- some blocks are as they were -/
def Agree (X : List Nat) (W V : World) : Prop := ∀ b, b ∈ X → V.heap[b]? = W.heap[b]?
theorem Agree.trans {X : List Nat} {W V U : World} (h : Agree X W V) (g : Agree X V U) : Agree X W U := fun b hb => (g b hb).trans (h b hb)
theorem Agree.lt {X : List Nat} {W V : World} (h : Agree X W V) (hX : ∀ b, b ∈ X → b < W.heap.size) : ∀ b, b ∈ X → b < V.heap.size := fun b hb => by
  have e := h b hb
  rw [Array.getElem?_eq_getElem (hX b hb)] at e
  exact (Array.getElem?_eq_some_iff.1 e).1
theorem Agree.grown {X : List Nat} {W V U : World} {r : Option Nat} (h : Agree X W V) (hX : ∀ b, b ∈ X → b < W.heap.size) (g : V.grownBy U r) (hr : ∀ k, r = some k → k ∉ X) : Agree X W U :=
  h.trans fun b hb => g.block b (h.lt hX b hb) (fun e => hr b e.symm hb)
theorem keep6 {W w : World} {a b c d e f : Nat} (h1 : w.heap[a]? = W.heap[a]?) (h2 : w.heap[b]? = W.heap[b]?) (h3 : w.heap[c]? = W.heap[c]?) (h4 : w.heap[d]? = W.heap[d]?) (h5 : w.heap[e]? = W.heap[e]?) (h6 : w.heap[f]? = W.heap[f]?) : ∃ x : KeepW W [a, b, c, d, e, f], w = x.w :=
  ⟨⟨w, fun b' hb => by simp only [List.mem_cons, List.not_mem_nil, or_false] at hb; rcases hb with rfl | rfl | rfl | rfl | rfl | rfl <;> assumption⟩, rfl⟩
/-- the iterator's boxes -/
structure YBox (o : Otl) (y : Lyg) (i m cL : Nat) (aL : Option Addr) (gp gr : Nat) (lp lr : Array Value) (bo bl bp by' br bt : Nat) (X : List Nat) (W : World) : Prop where
  z0 : W.heap[bo]? = some (.cells (o.cells) 27 (0, 0))
  m0 : bo ∈ X
  z1 : W.heap[bl]? = some (.cells #[.slice aL m cL] 22 (0, 0))
  m1 : bl ∈ X
  z2 : W.heap[bp]? = some (.cells #[.int .i64 (i : Int)] 3 (0, 0))
  m2 : bp ∈ X
  z3 : W.heap[by']? = some (.cells (y.cells) 29 (0, 0))
  m3 : by' ∈ X
  z4 : W.heap[br]? = some (.cells #[.func (.func gr) #[] lr] 72 (0, 0))
  m4 : br ∈ X
  z5 : W.heap[bt]? = some (.cells #[.func (.func gp) #[] lp] 66 (0, 0))
  m5 : bt ∈ X

set_option maxRecDepth 100000 in
set_option maxHeartbeats 8000000 in
theorem years1_in (n l : Nat) (o : Otl) (y : Lyg) (i m cL : Nat) (aL : Option Addr) (L : Nat → Int) (gp gr : Nat) (lp lr : Array Value) (egp : ∀ args w, (callFunc gp args).run Try.prog w = .ok (.enter gp args) w) (egr : ∀ args w, (callFunc gr args).run Try.prog w = .ok (.enter gr args) w)
    (room : Int → Bool) (part : Int → Int) (bo bl bp by' br bt : Nat) (w0 W : World) (X : List Nat) (q : Nat) (hRO : RunOk o i m L y.lot part) (hO : o.In w0) (hAL : IntsAt w0 aL m L) (hlow : Below w0.heap.size w0 W)
    (hZ : YBox o y i m cL aL gp gr lp lr bo bl bp by' br bt X W) (hX : ∀ b, b ∈ X → b < W.heap.size)
    (hRm : ∀ V x, Agree X W V → Calls Try.prog gr (#[.int .i64 x] ++ lr) V fun e w' => e = .returned (.bool (room x)) ∧ V = w')
    (hPt : ∀ V x, Agree X W V → 0 ≤ x → x ≤ 140737488355328 → Calls Try.prog gp (#[.int .i64 x] ++ lp) V fun e w' => e = .returned (.int .i64 (part x)) ∧ V = w')
    (hq : q ≤ m) (hgo : ∀ t, t < q → (o.yrAt i L y.lot room part t).2 = 0) (hst : q < m → (o.yrAt i L y.lot room part q).2 ≠ 0)
    (J : Nat → Nat → World → Prop) (Jx : World → Prop) (hJ : ∀ K j V V', W.heap.size ≤ K → J K j V → V.grownBy V' (some K) → J K j V') (hJ0 : ∀ K V, W.heap.size ≤ K → Below W.heap.size W V → J K 0 V)
    (hY : ∀ K j V, W.heap.size ≤ K → K < V.heap.size → J K j V → Agree X W V → Below w0.heap.size w0 V → j < m → j ≤ q → YieldAt Fence.wide (n - 1) Try.prog l #[cellV (o.yrAt i L y.lot room part j).1, .int .i64 (o.yrAt i L y.lot room part j).2] V fun e V' =>
      ((o.yrAt i L y.lot room part j).2 = 0 ∧ e = .returned (.bool true) ∧ J K (j + 1) V' ∧ Below w0.heap.size V V' ∧ Agree X V V' ∧ V'.heap[K]? = V.heap[K]?) ∨ ((o.yrAt i L y.lot room part j).2 ≠ 0 ∧ e = .returned (.bool false) ∧ Jx V')) :
    CallsIn Fence.wide n Try.prog 55 #[.func (.yield l) #[] #[], .pointer (some ⟨bo, 0, none⟩), .pointer (some ⟨bl, 0, none⟩), .pointer (some ⟨bp, 0, none⟩), .pointer (some ⟨by', 0, none⟩), .pointer (some ⟨br, 0, none⟩), .pointer (some ⟨bt, 0, none⟩)] W fun e W' => (∃ v, e = .returned v) ∧ ((q = m ∧ ∃ K, J K m W') ∨ (q < m ∧ Jx W')) := by
  have HRO := Lib.hid hRO; clear hRO
  have HO := Lib.hid hO; clear hO
  have HAL := Lib.hid hAL; clear hAL
  have HLOW := Lib.hid hlow; clear hlow
  have HX := Lib.hid hX; clear hX
  have HRM := Lib.hid hRm; clear hRm
  have HPT := Lib.hid hPt; clear hPt
  have HGO := Lib.hid hgo; clear hgo
  have HST := Lib.hid hst; clear hst
  have HJ := Lib.hid hJ; clear hJ
  have HJ0 := Lib.hid hJ0; clear hJ0
  have HY := Lib.hid hY; clear hY
  have HZ := Lib.hid hZ; clear hZ
  have m10 := HRO.out.m10
  have nS := (outB_t HRO.out.B).1
  have FST := Lib.hid (first_any o W (HO.out.below HLOW.out) nS)
  have x0 : W.cell? ⟨bo, 0, none⟩ = some (.slice o.aS o.nS o.cS) := cell_of_block HZ.out.z0 0 (by simp [Otl.cells])
  have x1 : W.cell? ⟨bo, 1, none⟩ = some (.int .i64 o.kl) := cell_of_block HZ.out.z0 1 (by simp [Otl.cells])
  have x2 : W.cell? ⟨bo, 2, none⟩ = some (.int .i64 o.kh) := cell_of_block HZ.out.z0 2 (by simp [Otl.cells])
  have x3 : W.cell? ⟨bo, 3, none⟩ = some (.slice o.aA o.nA o.cA) := cell_of_block HZ.out.z0 3 (by simp [Otl.cells])
  have x4 : W.cell? ⟨bo, 4, none⟩ = some (.slice o.aP o.nP o.cP) := cell_of_block HZ.out.z0 4 (by simp [Otl.cells])
  have x5 : W.cell? ⟨bl, 0, none⟩ = some (.slice aL m cL) := cell_of_block HZ.out.z1 0 (by simp)
  have lo := (Array.getElem?_eq_some_iff.1 HZ.out.z0).1
  have ll := (Array.getElem?_eq_some_iff.1 HZ.out.z1).1
  unfold Otl.val at FST
  refine callsIn_of_wp Try.func55 rfl trivial ?_ rfl
  simp only [Try.ntmps55, List.size_toArray, List.length_cons, List.length_nil, Nat.reduceAdd, Nat.reduceSub, Array.replicate_succ, Array.replicate_zero, List.push_toArray, List.append_toArray, List.nil_append, List.cons_append]
  gi_wp2_with fail
  refine ⟨trivial, (fun h => (by cases h)), ?_⟩
  refine (callsIn_wide.2 FST.out).mono ?_
  rintro e W2 ⟨rfl, hb2⟩
  obtain ⟨K, hK⟩ : ∃ K, W2.heap.size = K := ⟨_, rfl⟩
  obtain ⟨W3, hW3⟩ : ∃ W3, W2.alloc (.cells #[.int .i64 0, .int .i64 0, .int .i64 0, .int .i64 0, .int .i64 0, .int .i64 0, .int .i64 0, .int .i64 0, .int .i64 0, .int .i64 0, .int .i64 0, .int .i64 0, .int .i64 0, .int .i64 0, .int .i64 0, .int .i64 0, .int .i64 0, .int .i64 0, .int .i64 0, .int .i64 0, .int .i64 0, .int .i64 0, .int .i64 0, .int .i64 0, .int .i64 0, .int .i64 0, .int .i64 0, .int .i64 0, .int .i64 0, .int .i64 0, .int .i64 0, .int .i64 0] 74) = W3 := ⟨_, rfl⟩
  have z9 : W3.heap[K]? = some (.cells (cV zero32).toArray 74 (0, 0)) := by rw [← hW3, zero32_v]; exact alloc_at hK
  have HC3 := Lib.hid (cel_of_block rfl z9)
  have HB3 := Lib.hid (show Below W.heap.size W W3 by rw [← hW3]; exact hb2.alloc hb2.size _)
  have hKW : W.heap.size ≤ K := by rw [← hK]; exact hb2.size
  have HC3L := Lib.hid (show CelAt (W2.alloc (.cells #[.int .i64 0, .int .i64 0, .int .i64 0, .int .i64 0, .int .i64 0, .int .i64 0, .int .i64 0, .int .i64 0, .int .i64 0, .int .i64 0, .int .i64 0, .int .i64 0, .int .i64 0, .int .i64 0, .int .i64 0, .int .i64 0, .int .i64 0, .int .i64 0, .int .i64 0, .int .i64 0, .int .i64 0, .int .i64 0, .int .i64 0, .int .i64 0, .int .i64 0, .int .i64 0, .int .i64 0, .int .i64 0, .int .i64 0, .int .i64 0, .int .i64 0, .int .i64 0] 74)) W2.heap.size 0 zero32 by rw [hW3, hK]; exact HC3.out)
  have HW3 := Lib.hid hW3
  have HK := Lib.hid hK
  have x6 := below_cell hb2 x5
  have ll2 := Nat.lt_of_lt_of_le ll hb2.size
  clear z9 hW3 hK hb2 x0 x1 x2 x3 x4 x5
  gi_upto_region 1 with (first | (refine wpListIn_store_cel (c := zero32) (c' := firstC o.S o.nS) rfl _ _ rfl _ _ rfl rfl HC3L.out (firstC_len _ _) ?_))
  clear HC3L
  obtain ⟨P1, P2⟩ := HC3.out.put (firstC_len o.S o.nS)
  rw [HW3.out, HK.out]
  obtain ⟨W4, hW4⟩ : ∃ W4, W3.setCells K 0 (cV (firstC o.S o.nS)) = W4 := ⟨_, rfl⟩
  rw [hW4] at P1 P2 ⊢
  have HC4 := Lib.hid (show CelAt W4 K 0 (o.celAt i L y.lot room part 0) from P1)
  have HB4 := Lib.hid (HB3.out.grown P2.g HB3.out.size (fun k e => by cases e; exact hKW))
  have x7 := below_cell HB4.out (cell_of_block HZ.out.z1 0 (by simp) : W.cell? ⟨bl, 0, none⟩ = some (.slice aL m cL))
  have ll4 := Nat.lt_of_lt_of_le ll HB4.out.size
  have HJS := Lib.hid (HJ0.out K W4 hKW HB4.out)
  have HAS := Lib.hid (show Agree X W W4 from fun b hb => HB4.out.block b (HX.out b hb))
  have HLS := Lib.hid (HLOW.out.trans (HB4.out.mono HLOW.out.size))
  have hKX : K ∉ X := fun h => by have := HX.out K h; omega
  have HKX := Lib.hid hKX
  have lK := P1.lt
  clear hW4 P1 P2 HC3 HB3 HW3 HK x6 ll2 hKX
  gi_wp2_with fail
  gi_loopw [16] (fun t wr => ∃ j : Nat, j ≤ q ∧ t = .int .i64 j ∧ Hid (J K j wr) ∧ Hid (CelAt wr K 0 (o.celAt i L y.lot room part j)) ∧ Hid (Agree X W wr) ∧ Hid (Below w0.heap.size w0 wr)) (fun t _ => m - (intOf t).toNat)
  case atStart => exact ⟨0, Nat.zero_le _, rfl, HJS, HC4, HAS, HLS⟩
  case round =>
    obtain ⟨j, hj, rfl, HJj, HCj, HAj, HLj⟩ := hrel
    by_cases hlt : j < m
    · have hi := HRO.out.hi
      have htm := HRO.out.hm
      have lr0 := HRO.out.laid hlt
      have vv := HRO.out.vals hlt
      rcases HAL.out with h0 | ⟨b3, o3, ea, lc3, hc3⟩
      · omega
      rcases HO.out.iP with h0 | ⟨b1, o1, eb, lc1, hc1⟩
      · omega
      rcases HO.out.iY i hi with h0 | ⟨b2, o2, ec, lc2, hc2⟩
      · omega
      have y3 := (HLj.out.cell (p := ⟨b3, o3 + j, none⟩) lc3).trans (hc3 j hlt)
      have y1 := (HLj.out.cell (p := ⟨b1, o1 + i, none⟩) lc1).trans (hc1 i hi)
      have y2 := (HLj.out.cell (p := ⟨b2, o2 + j, none⟩) lc2).trans (hc2 j (by omega))
      have lb1 : b1 < wr.heap.size := Nat.lt_of_lt_of_le lc1 HLj.out.size
      have lb2 : b2 < wr.heap.size := Nat.lt_of_lt_of_le lc2 HLj.out.size
      have lb3 : b3 < wr.heap.size := Nat.lt_of_lt_of_le lc3 HLj.out.size
      dsimp only at y1 y2
      rw [vv.1] at y2
      rw [ec] at y1
      have Z := HZ.out
      have w0' := (HAj.out _ Z.m0).trans Z.z0
      have w2' := (HAj.out _ Z.m2).trans Z.z2
      have w3' := (HAj.out _ Z.m3).trans Z.z3
      have w4' := (HAj.out _ Z.m4).trans Z.z4
      have w5' := (HAj.out _ Z.m5).trans Z.z5
      have u0 : wr.cell? ⟨bo, 0, none⟩ = some (.slice o.aS o.nS o.cS) := cell_of_block w0' 0 (by simp [Otl.cells])
      have u1 : wr.cell? ⟨bo, 1, none⟩ = some (.int .i64 o.kl) := cell_of_block w0' 1 (by simp [Otl.cells])
      have u2 : wr.cell? ⟨bo, 2, none⟩ = some (.int .i64 o.kh) := cell_of_block w0' 2 (by simp [Otl.cells])
      have u3 : wr.cell? ⟨bo, 3, none⟩ = some (.slice o.aA o.nA o.cA) := cell_of_block w0' 3 (by simp [Otl.cells])
      have u4 : wr.cell? ⟨bo, 4, none⟩ = some (.slice (some ⟨b1, o1, none⟩) o.nP o.cP) := by rw [← eb]; exact cell_of_block w0' 4 (by simp [Otl.cells])
      have v2 : wr.cell? ⟨bp, 0, none⟩ = some (.int .i64 (i : Int)) := cell_of_block w2' 0 (by simp)
      have v3 : wr.cell? ⟨by', 2, none⟩ = some (.int .i64 y.lot) := cell_of_block w3' 2 (by simp [Lyg.cells])
      have v4 : wr.cell? ⟨br, 0, none⟩ = some (.func (.func gr) #[] lr) := cell_of_block w4' 0 (by simp)
      have k0 := (Array.getElem?_eq_some_iff.1 w0').1
      have k2 := (Array.getElem?_eq_some_iff.1 w2').1
      have k3 := (Array.getElem?_eq_some_iff.1 w3').1
      have k4 := (Array.getElem?_eq_some_iff.1 w4').1
      have CO := celAt_ok (room := room) HRO.out j (by omega)
      have OB := outB_t HRO.out.B
      have YE := Lib.hid (fun z => year_any o (o.celAt i L y.lot room part j) K 0 (o.yA i j) (o.yC i j) (o.V i j) (L j * y.lot) gr lr egr room w0 (gw wr z) (HCj.out.below (below_gw wr z)) CO.1 (by have := CO.2.2; omega) lr0.1 (by omega) HO.out (HLj.out.gw z) (by have := HLOW.out.size; omega) OB.2.2.2.2.2.2.2.1 OB.2.2.2.2.2.2.1 (by have := HO.out.iV i hi j (by omega); rw [vv.1] at this; exact this) vv.2
        (fun V x hg => HRM.out V x (HAj.out.grown HX.out (grownBy_trans (grownBy_of_below (below_gw wr z) (some K)) hg) (fun k e => by cases e; exact HKX.out))))
      have EV : yearF o.A (o.V i j) o.nA (L j * y.lot) room (o.celAt i L y.lot room part j) = o.yrAt i L y.lot room part j := rfl
      rw [EV] at YE
      clear EV
      have YO := Lib.hid (yrAt_ok (room := room) HRO.out hlt)
      have CS := Lib.hid (celAt_succ o i L y.lot room part j)
      have HGJ := Lib.hid (fun h => HGO.out j h)
      have HSJ := Lib.hid (fun h : q = j => by rw [h] at HST; exact HST.out hlt)
      have HYJ := Lib.hid (fun V => HY.out K j V hKW)
      obtain ⟨c', e', hE⟩ : ∃ c' e', o.yrAt i L y.lot room part j = (c', e') := ⟨_, _, rfl⟩
      rw [hE] at YE YO CS HGJ HSJ HYJ
      dsimp only at YE YO CS HGJ HSJ HYJ
      have YE2 := Lib.hid YE.out
      unfold Otl.val at YE2
      rw [eb] at YE2
      have lk0 : K < wr.heap.size := HCj.out.lt
      have n1 : bo ≠ K := by have := HX.out _ HZ.out.m0; omega
      have n2 : bp ≠ K := by have := HX.out _ HZ.out.m2; omega
      have n3 : by' ≠ K := by have := HX.out _ HZ.out.m3; omega
      have n4 : br ≠ K := by have := HX.out _ HZ.out.m4; omega
      have sz0 := HLOW.out.size
      have lw1 : b1 ≠ K := by omega
      have lw2 : b2 ≠ K := by omega
      have hpl : (i : Int) < (o.nP : Int) := by omega
      have hpj : (j : Int) < (o.pN i : Int) := by omega
      have hw1 : IntKind.i64.wrap (L j * y.lot) = L j * y.lot := IntWalk.i64_in _ (by omega)
      subst ea
      clear hc3 hc1 hc2 eb ec htm vv lr0 CO OB Z YE hE w0' w2' w3' w4' w5' x7
      gi_wp2_with fail
      haveI hne : Nonempty (KeepW wr [bo, bp, by', br, b1, b2]) := ⟨⟨wr, fun _ _ => rfl⟩⟩
      refine wpIn_wide.2 (wp_region_steps (fun w' => ∃ x : KeepW wr [bo, bp, by', br, b1, b2], w' = x.w) [([0, 1, 2, 3, 4, 5, 6, 7, 8, 9, 10, 11, 12, 13], 14)] [15] [] (by kernel_rfl) (by kernel_rfl) ?_)
      rintro _ ⟨x0, rfl⟩
      refine ⟨keep6 (gw_block wr x0 _ k0) (gw_block wr x0 _ k2) (gw_block wr x0 _ k3) (gw_block wr x0 _ k4) (gw_block wr x0 _ lb1) (gw_block wr x0 _ lb2), ?_⟩
      refine wpSeg_cons ?_
      simp only [pickL, List.getElem?_cons_zero, List.getElem?_cons_succ]
      repeat (go_big_quiet_step (fail))
      refine wpQuiet_nil ?_
      go_wp2_with fail
      rename_i KK hKK
      (with_reducible refine (YE2.out x0).mono ?_)
      rintro e w4 ⟨rfl, hc4, hr4⟩
      have g4 := hr4.g
      have HC4c := Lib.hid hc4
      have HR4 := Lib.hid hr4
      clear hc4 hr4
      have sz4 : (gw wr x0).heap.size ≤ w4.heap.size := g4.size
      have kp : ∀ b, b < wr.heap.size → b ≠ K → w4.heap[b]? = wr.heap[b]? := fun b h1 h2 => (g4.block b (by rw [gw_size]; omega) (fun e => h2 (by cases e; rfl))).trans (gw_block wr x0 b h1)
      refine hKK _ _ (contQ_nil ⟨keep6 (kp _ k0 n1) (kp _ k2 n2) (kp _ k3 n3) (kp _ k4 n4) (kp _ lb1 lw1) (kp _ lb2 lw2), ?_⟩)
      clear hKK KK
      refine wpSeg_nil ?_
      simp only [pickL, List.getElem?_cons_zero, List.getElem?_cons_succ]
      repeat (go_big_quiet_step (fail))
      refine wpQuiet_nil ?_
      refine contN_nil ?_
      have gg := grownBy_trans (grownBy_of_below (below_gw wr x0) (some K)) g4
      have J4 := HJ.out K j wr w4 hKW HJj.out gg
      have A4 := HAj.out.grown HX.out gg (fun k e => by cases e; exact HKX.out)
      have L4 := HLj.out.grown gg HLj.out.size (fun k e => by cases e; omega)
      have lk4 : K < w4.heap.size := HC4c.out.lt
      obtain ⟨fn, tmps, assign, body, hy, hR⟩ := HYJ.out w4 lk4 J4 A4 L4 hlt hj
      have HA4 := Lib.hid A4
      have HL4 := Lib.hid L4
      have HRR := Lib.hid hR
      clear hR gg J4 A4 L4 kp g4 u0 u1 u2 u3 u4 v2 v3 v4 y1 y2 y3 hne HR4 HYJ YE2
      gi_wp2_with (refine wpListIn_load_cel rfl _ rfl _ _ rfl HC4c.out ?_)
      refine ⟨(fun h => (by cases h)), HRR.out.mono ?_⟩
      rintro e W5 (⟨h0, rfl, hJ5, hb5, ha5, hk5⟩ | ⟨h0, rfl, hx5⟩)
      · have d0 : (e' != 0) = false := by simp [h0]
        have d1 : ((e' : Int) == 0) = true := by simp [h0]
        have H0 := Lib.hid h0
        have HJ5 := Lib.hid hJ5
        have HL5 := Lib.hid (HL4.out.trans hb5)
        have HA5 := Lib.hid (HA4.out.trans ha5)
        have HC5 := Lib.hid (HC4c.out.same hk5)
        have z5 : W5.heap[bt]? = some (.cells #[.func (.func gp) #[] lp] 66 (0, 0)) := (HA5.out _ HZ.out.m5).trans HZ.out.z5
        have x5 : W5.cell? ⟨bt, 0, none⟩ = some (.func (.func gp) #[] lp) := cell_of_block z5 0 (by simp)
        have l5 := (Array.getElem?_eq_some_iff.1 z5).1
        have yo := YO.out
        have LT := Lib.hid (later_any c' part gp lp egp W5 yo.2.1 (fun t _ => (HRO.out.hpart _ (yo.1.getD t)).1) (HRO.out.hpart 0 (Int.le_refl 0)).1 (fun t ht => by
          have := partN_le (p := part) (e := 0) (c := c') (fun t => by have := (HRO.out.hpart _ (yo.1.getD t)).2; omega) t (by omega)
          have := tot_take_le yo.1 t
          omega) (fun V t hb ht => HPT.out V _ (HA5.out.trans (fun b hb2 => hb.block b (HA5.out.lt HX.out b hb2))) (yo.1.getD t) (by have := yo.1.le_tot t; omega)))
        clear h0 hJ5 hb5 ha5 hk5 z5 yo hy
        gi_wp2_with (refine wpListIn_load_cel rfl _ rfl _ _ rfl HC5.out ?_)
        refine ⟨trivial, (fun h => (by cases h)), ?_⟩
        refine (callsIn_wide.2 LT.out).mono ?_
        rintro e w6 ⟨rfl, hb6⟩
        have HC6 := Lib.hid (HC5.out.below hb6)
        have HB6 := Lib.hid hb6
        clear hb6
        gi_wp2_with ((with_reducible refine wpListIn_store_cel (c := c') (c' := lateF part c') rfl _ _ rfl K 0 rfl rfl HC6.out (lateF_len part c') ?_))
        go_roundw
        case rel =>
          obtain ⟨p1, p2⟩ := HC6.out.put (lateF_len part c')
          have g6 := grownBy_trans (grownBy_of_below HB6.out (some K)) p2.g
          have ejq : j < q := by rcases Nat.lt_or_ge j q with h | h; exact h; exact absurd H0.out (HSJ.out (by omega))
          exact ⟨j + 1, ejq, by go_num, Lib.hid (HJ.out K (j + 1) W5 _ hKW HJ5.out g6), Lib.hid (by rw [CS.out]; exact p1), Lib.hid (HA5.out.grown HX.out g6 (fun k e => by cases e; exact HKX.out)), Lib.hid (HL5.out.grown g6 HL5.out.size (fun k e => by cases e; omega))⟩
        case measure => simp [intOf]; omega
      · have H0 := Lib.hid h0
        have HX5 := Lib.hid hx5
        clear h0 hx5
        gi_wp2_with fail
        have eq : j = q := by rcases Nat.lt_or_ge j q with h | h; exact absurd (HGJ.out h) H0.out; omega
        exact bodyPost_ret (v := .tuple #[]) (results_none rfl _ _ _) rfl ⟨⟨_, rfl⟩, .inr ⟨by omega, HX5.out⟩⟩
    · have hqm : q = m := by omega
      have hjm : j = m := by omega
      have HQ := Lib.hid hqm
      have HM := Lib.hid hjm
      clear hqm hjm
      gi_wp2_with fail
      go_end0
      exact ⟨⟨_, rfl⟩, .inl ⟨HQ.out, K, by rw [← HM.out]; exact HJj.out⟩⟩
end Go.Proofs.Ytdcpgjepgajioaa
