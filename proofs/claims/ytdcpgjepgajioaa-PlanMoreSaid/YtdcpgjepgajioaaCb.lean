/- Contract of the reference's run. No conditions beyond each theorem's own. -/
import Derived.Test.YtdcpgjepgajioaaBv
import Derived.Test.YtdcpgjepgajioaaBn
import Derived.Test.YtdcpgjepgajioaaCa
set_option linter.unusedVariables false
set_option linter.unusedSimpArgs false
set_option linter.unusedSectionVars false
set_option linter.constructorNameAsVariable false
namespace Go.Proofs.Ytdcpgjepgajioaa
open Go.RowKit

attribute [local go_sem] gw_cell gw_frozen gw_size

theorem firstC_set {S : Nat → Int} {k : Nat} (hk : k < 32) : firstC S (k + 1) = (firstC S k).set k (S k) := by
  apply List.ext_getElem
  · simp [firstC]
  · intro i h1 h2
    have hi : i < 32 := by simpa [firstC] using h1
    simp only [firstC, List.getElem_map, List.getElem_range, List.getElem_set]
    by_cases e : k = i
    · subst e; simp
    · simp only [if_neg e]
      by_cases h : i < k
      · rw [if_pos (by omega), if_pos h]
      · rw [if_neg (by omega), if_neg h]
theorem firstC_zero (S : Nat → Int) : firstC S 0 = zero32 := rfl
/-- rows under way, the block of someone else another one -/
theorem LRows.rekey {V : World} {base K K2 j c : Nat} {a : Option Addr} {M : Nat → List Int} (h : LRows V base K a j c M) (hK : V.heap.size ≤ K2) : LRows V base K2 a j c M := by
  obtain ⟨rA, rC, h1, h2, h3⟩ := h
  refine ⟨rA, rC, h1, fun b hb => by have := (h1.lt b hb).2; omega, fun t ht => ?_⟩
  obtain ⟨g, e1, e2, e3, e4, e5, e6⟩ := h3 t ht
  exact ⟨g, e1, e2, e3, by omega, e5, e6⟩
theorem RowsOf.nil (w : World) (M : Nat → List Int) : RowsOf w none 0 M := ⟨fun _ => none, fun _ => 0, .inl rfl, fun t ht => absurd ht (Nat.not_lt_zero t)⟩
/-- a row more: the one that someone else had -/
theorem LRows.pushK {V V2 : World} {base K K2 j c c' : Nat} {a : Option Addr} {v9 : Value} {M : Nat → List Int} {rA : Nat → Option Addr} {rC : Nat → Nat} (h1 : V.ownsRow base 22 1 (.slice a j c) j (rowsV j rA rC)) (h2 : ∀ b, (Value.slice a j c).ownBlock = some b → b ≠ K)
    (h3 : ∀ t, t < j → ∃ g, rA t = some ⟨g, 0, none⟩ ∧ base ≤ g ∧ g < V.heap.size ∧ g ≠ K ∧ some g ≠ (Value.slice a j c).ownBlock ∧ ∀ i, i < 32 → V.cell? ⟨g, i, none⟩ = some (.int .i64 ((M t).getD i 0)))
    (hbase : base ≤ K) (hK : K < V.heap.size) (hc : ∀ i, i < 32 → V.cell? ⟨K, i, none⟩ = some (.int .i64 ((M j).getD i 0)))
    (hg : V.grownBy V2 (Value.slice a j c).ownBlock) (h9 : V2.ownsRow base 22 1 v9 (j + 1) (rowsV j rA rC ++ [.slice (some ⟨K, 0, none⟩) 32 c'])) (hat : v9.ownBlock = (Value.slice a j c).ownBlock ∨ ∃ b, v9.ownBlock = some b ∧ V.heap.size ≤ b) (hK2 : V2.heap.size ≤ K2) :
    ∃ a9 c9, v9 = .slice a9 (j + 1) c9 ∧ LRows V2 base K2 a9 (j + 1) c9 M := by
  obtain ⟨a9, c9, rfl⟩ := own_form h9
  refine ⟨a9, c9, rfl, fun t => if t < j then rA t else some ⟨K, 0, none⟩, fun t => if t < j then rC t else c', ?_, ?_, ?_⟩
  · have e : rowsV (j + 1) (fun t => if t < j then rA t else some ⟨K, 0, none⟩) (fun t => if t < j then rC t else c') = rowsV j rA rC ++ [.slice (some ⟨K, 0, none⟩) 32 c'] := by
      unfold rowsV
      rw [List.range_succ, List.map_append]
      congr 1
      · exact List.map_congr_left (fun t ht => by simp [List.mem_range.1 ht])
      · simp
    rw [e]; exact h9
  · intro b hb9
    have := (h9.lt b hb9).2
    omega
  · intro t ht
    have nb : ∀ g, g < V.heap.size → some g ≠ (Value.slice a j c).ownBlock → some g ≠ (Value.slice a9 (j + 1) c9).ownBlock := fun g hg1 hg2 => by
      rcases hat with e | ⟨b', e, e2⟩
      · rw [e]; exact hg2
      · rw [e]; intro h; cases h; omega
    have hs := hg.size
    by_cases htj : t < j
    · simp only [htj, if_true]
      obtain ⟨g, e1, e2, e3, e4, e5, e6⟩ := h3 t htj
      exact ⟨g, e1, e2, Nat.lt_of_lt_of_le e3 hg.size, by omega, nb g e3 e5, fun i hi => (World.cell?_of_block (a := ⟨g, i, none⟩) (hg.block g e3 e5)).trans (e6 i hi)⟩
    · obtain rfl : t = j := by omega
      simp only [Nat.lt_irrefl, if_false]
      have hne : some K ≠ (Value.slice a t c).ownBlock := fun e => h2 K e.symm rfl
      exact ⟨K, rfl, hbase, Nat.lt_of_lt_of_le hK hg.size, by omega, nb K hK hne, fun i hi => (World.cell?_of_block (a := ⟨K, i, none⟩) (hg.block K hK hne)).trans (hc i hi)⟩
/-- what the reference's run hands back; q: the first year with an error, or m -/
def RunEnd (f : Nat → Int) (M : Nat → List Int) (m q : Nat) (w : World) (e : Ending) (w' : World) : Prop :=
  ∃ a c, e = .returned (.tuple #[.slice a (if q = m then m else 0) c, .int .i64 (q : Int), .int .i64 (if q = m then 0 else f q)]) ∧ RowsOf w' a (if q = m then m else 0) M ∧ Below w.heap.size w w'
theorem RunEnd.short {f : Nat → Int} {M : Nat → List Int} {m q t : Nat} {w w' : World} {v : Int} (hq : q < m) (ht : t = q) (hv : f q = v) (hb : Below w.heap.size w w') : RunEnd f M m q w (.returned (.tuple #[.slice none 0 0, .int .i64 (t : Int), .int .i64 v])) w' := by
  subst ht
  refine ⟨none, 0, ?_, ?_, hb⟩
  · rw [if_neg (by omega), if_neg (by omega), hv]
  · rw [if_neg (by omega)]; exact RowsOf.nil _ _
theorem RunEnd.full {f : Nat → Int} {M : Nat → List Int} {m q c : Nat} {a : Option Addr} {w w' : World} (hq : q = m) (hr : RowsOf w' a m M) (hb : Below w.heap.size w w') : RunEnd f M m q w (.returned (.tuple #[.slice a m c, .int .i64 (m : Int), .int .i64 0])) w' := by
  subst hq
  refine ⟨a, c, ?_, ?_, hb⟩
  · rw [if_pos rfl, if_pos rfl]
  · rw [if_pos rfl]; exact hr

set_option maxRecDepth 100000 in
set_option maxHeartbeats 16000000 in
theorem rrun_lo (o : Otl) (y : Lyg) (aL : Option Addr) (m cL : Nat) (L : Nat → Int) (i : Nat) (w : World) (hRO : RunOk o i m L y.lot (parLo o)) (hO : o.In w) (hL : IntsAt w aL m L) :
    Calls Try.prog 39 #[o.val, y.val, .slice aL m cL, .int .i64 (i : Int), .bool false] w (RunEnd (o.errLo y i L) (fun t => (o.yrAt i L y.lot anyRoom (parLo o) t).1) m (upto (o.errLo y i L) m) w) := by
  have OB := outB_t hRO.B
  have m10 := hRO.m10
  obtain ⟨q, hq⟩ : ∃ q, upto (o.errLo y i L) m = q := ⟨_, rfl⟩
  rw [hq]
  have hqm : q ≤ m := by rw [← hq]; exact upto_le _ _
  have HQ := Lib.hid hq; clear hq
  unfold Otl.val Lyg.val
  obtain ⟨W1, hW1⟩ : ∃ W1, (w.alloc (.cells #[.slice o.aS o.nS o.cS, .int .i64 o.kl, .int .i64 o.kh, .slice o.aA o.nA o.cA, .slice o.aP o.nP o.cP] 27)).alloc (.cells #[.slice y.aR y.nR y.cR, .slice y.aM y.nM y.cM, .int .i64 y.lot, .int .i64 y.room] 29) = W1 := ⟨_, rfl⟩
  have hBc : Below w.heap.size w W1 := by rw [← hW1]; exact (below_alloc _ _).alloc (by simp) _
  have zc0 : W1.heap[w.heap.size]? = some (.cells #[.slice o.aS o.nS o.cS, .int .i64 o.kl, .int .i64 o.kh, .slice o.aA o.nA o.cA, .slice o.aP o.nP o.cP] 27 (0, 0)) := by rw [← hW1]; exact alloc_keep (alloc_at rfl)
  have zc1 : W1.heap[w.heap.size + 1]? = some (.cells #[.slice y.aR y.nR y.cR, .slice y.aM y.nM y.cM, .int .i64 y.lot, .int .i64 y.room] 29 (0, 0)) := by rw [← hW1]; exact alloc_at (by simp)
  have c00 : W1.cell? ⟨w.heap.size, 0, none⟩ = some (.slice o.aS o.nS o.cS) := cell_of_block zc0 0 (by simp)
  have c01 : W1.cell? ⟨w.heap.size, 1, none⟩ = some (.int .i64 o.kl) := cell_of_block zc0 1 (by simp)
  have c02 : W1.cell? ⟨w.heap.size, 2, none⟩ = some (.int .i64 o.kh) := cell_of_block zc0 2 (by simp)
  have c03 : W1.cell? ⟨w.heap.size, 3, none⟩ = some (.slice o.aA o.nA o.cA) := cell_of_block zc0 3 (by simp)
  have c04 : W1.cell? ⟨w.heap.size, 4, none⟩ = some (.slice o.aP o.nP o.cP) := cell_of_block zc0 4 (by simp)
  have c10 : W1.cell? ⟨w.heap.size + 1, 0, none⟩ = some (.slice y.aR y.nR y.cR) := cell_of_block zc1 0 (by simp)
  have c11 : W1.cell? ⟨w.heap.size + 1, 1, none⟩ = some (.slice y.aM y.nM y.cM) := cell_of_block zc1 1 (by simp)
  have c12 : W1.cell? ⟨w.heap.size + 1, 2, none⟩ = some (.int .i64 y.lot) := cell_of_block zc1 2 (by simp)
  have c13 : W1.cell? ⟨w.heap.size + 1, 3, none⟩ = some (.int .i64 y.room) := cell_of_block zc1 3 (by simp)
  have lc0 := (Array.getElem?_eq_some_iff.1 zc0).1
  have lc1 := (Array.getElem?_eq_some_iff.1 zc1).1
  have Zc0 := Lib.hid zc0
  have Zc1 := Lib.hid zc1
  clear zc0 zc1
  have HBc := Lib.hid hBc; clear hBc
  have HWc := Lib.hid hW1; clear hW1
  obtain ⟨W2, MK, hz, hb⟩ := made_row W1
  have HB := Lib.hid (HBc.out.trans (hb.mono HBc.out.size))
  have s1 := HBc.out.size
  have Z0 := Lib.hid ((hb.block _ lc0).trans Zc0.out); have Z1 := Lib.hid ((hb.block _ lc1).trans Zc1.out)
  have HO := Lib.hid hO; have HL := Lib.hid hL; have HRO := Lib.hid hRO; have HOB := Lib.hid OB
  obtain ⟨g, hg⟩ : ∃ g, W1.heap.size = g := ⟨_, rfl⟩
  rw [hg] at MK hz
  have lg : w.heap.size + 1 < g := by rw [← hg]; exact lc1
  have nS := OB.1
  have nA4 : o.nA ≤ 4 := OB.2.2.2.2.2.2.1
  have HZ := Lib.hid (show CelAt W2 g 0 (firstC o.S 0) by rw [firstC_zero]; exact hz)
  clear hb hz hg hO hL hRO OB s1 lc0 lc1 c00 c01 c02 c03 c04 c10 c11 c12 c13
  go_enter Try.func39, Try.ntmps39
  go_upto_region 1 with (fail)
  rw [HWc.out]
  go_wp2_with fail
  clear MK
  go_loopw [14] (fun s wr => ∃ k : Nat, k ≤ o.nS ∧ s = .int .i64 (k : Int) ∧ Hid (CelAt wr g 0 (firstC o.S k)) ∧ Hid (wr.heap[w.heap.size]? = some (.cells o.cells 27 (0, 0))) ∧ Hid (wr.heap[w.heap.size + 1]? = some (.cells y.cells 29 (0, 0))) ∧ Hid (Below w.heap.size w wr)) (fun s _ => o.nS - (intOf s).toNat)
  case atStart => exact ⟨0, Nat.zero_le _, rfl, HZ, Z0, Z1, HB⟩
  case round =>
    obtain ⟨k, hk, rfl, HC, H0, H1, HW⟩ := hrel
    have x0 : wr.cell? ⟨w.heap.size, 0, none⟩ = some (.slice o.aS o.nS o.cS) := cell_of_block H0.out 0 (by simp [Otl.cells])
    have l0 := (Array.getElem?_eq_some_iff.1 H0.out).1
    by_cases hlt : k < o.nS
    · rcases HO.out.iS with h0 | ⟨b, off, ea, lb, hc⟩
      · omega
      have x1 := (HW.out.cell (p := ⟨b, off + k, none⟩) lb).trans (hc k hlt)
      have l1 : b < wr.heap.size := Nat.lt_of_lt_of_le lb HW.out.size
      rw [ea] at x0
      have cn := HC.out.cell k (by omega)
      rw [Nat.zero_add] at cn
      have cf := HC.out.free k
      have l2 := HC.out.lt
      have hk1 : (k : Int) < (o.nS : Int) := by omega
      have hk2 : (k : Int) < 32 := by omega
      have HC2 := HC.out.set k (o.S k) (by omega)
      rw [← firstC_set (by omega), Nat.zero_add] at HC2
      have HCs := Lib.hid HC2
      have g2 := Lib.hid (grownBy_set wr g k (.int .i64 (o.S k)))
      clear HC2 hc ea
      go_wp2_with fail
      go_roundw
      case rel => exact ⟨k + 1, by omega, by go_num, HCs, Lib.hid ((g2.out.block _ l0 (by simp; omega)).trans H0.out), Lib.hid ((g2.out.block _ (Array.getElem?_eq_some_iff.1 H1.out).1 (by simp; omega)).trans H1.out), Lib.hid (HW.out.grown g2.out HW.out.size (fun b hb => by cases hb; omega))⟩
      case measure => simp [intOf]; omega
    · obtain ⟨V, rfl⟩ : ∃ V : World, V = wr := ⟨_, rfl⟩
      have hks : k = o.nS := by omega
      have HC0 := Lib.hid (show CelAt V g 0 (o.celAt i L y.lot anyRoom (parLo o) 0) by rw [hks] at HC; exact HC.out)
      have HKS := Lib.hid hks
      clear hks
      go_wp2_with fail
      clear x0 l0
      go_loopw [13, 15, 16] (fun s13 s15 s16 wr => ∃ (t gs : Nat) (a : Option Addr) (c : Nat), t ≤ q ∧ s13 = .slice (some ⟨gs, 0, none⟩) 32 32 ∧ s15 = .slice a t c ∧ s16 = .int .i64 (t : Int) ∧ w.heap.size + 1 < gs ∧ Hid (CelAt wr gs 0 (o.celAt i L y.lot anyRoom (parLo o) t)) ∧ Hid (LRows wr (w.heap.size + 2) gs a t c (fun t => (o.yrAt i L y.lot anyRoom (parLo o) t).1)) ∧ Hid (wr.heap[w.heap.size]? = some (.cells o.cells 27 (0, 0))) ∧ Hid (wr.heap[w.heap.size + 1]? = some (.cells y.cells 29 (0, 0))) ∧ Hid (Below w.heap.size w wr)) (fun _ _ s16 _ => m - (intOf s16).toNat)
      case atStart => exact ⟨0, g, none, 0, Nat.zero_le _, rfl, rfl, rfl, lg, HC0, Lib.hid (LRows.nil _ _ _ _), H0, H1, HW⟩
      case round =>
      obtain ⟨t, gs, a, c, htq, rfl, rfl, rfl, hgs, HCt, HRt, HB0, HB1, HBt⟩ := hrel
      have y2 : wr.cell? ⟨w.heap.size + 1, 2, none⟩ = some (.int .i64 y.lot) := cell_of_block HB1.out 2 (by simp [Lyg.cells])
      have ly := (Array.getElem?_eq_some_iff.1 HB1.out).1
      by_cases htm : t < m
      · rcases HL.out with h0 | ⟨b, off, ea, lb, hc⟩
        · omega
        have x1 := (HBt.out.cell (p := ⟨b, off + t, none⟩) lb).trans (hc t htm)
        have l1 : b < wr.heap.size := Nat.lt_of_lt_of_le lb HBt.out.size
        subst ea
        obtain ⟨v0, hv0⟩ : ∃ v0, (o.celAt i L y.lot anyRoom (parLo o) t).getD 0 0 = v0 := ⟨_, rfl⟩
        have CO := celAt_ok (room := anyRoom) HRO.out t (by omega)
        have va := CO.1.getD 0
        have vb := CO.1.le_tot 0
        have vc := CO.2.2
        rw [hv0] at va vb
        have cn := HCt.out.cell 0 (by omega)
        rw [hv0, Nat.zero_add] at cn
        have cf := HCt.out.free 0
        have l2 := HCt.out.lt
        have ht1 : (t : Int) < (m : Int) := by omega
        have lr := HRO.out.laid htm
        have hw1 : IntKind.i64.wrap (L t * y.lot) = L t * y.lot := IntWalk.i64_in _ (by omega)
        have hw2 : IntKind.i64.wrap (v0 + L t * y.lot) = v0 + L t * y.lot := IntWalk.i64_in _ (by omega)
        have HV0 := Lib.hid hv0
        have CO := Lib.hid CO
        clear hv0 hc vb vc
        go_wp2_with fail
        go_region
        go_wp2_with fail
        refine wp_region_gw (by kernel_rfl) (by kernel_rfl) ?_
        repeat (go_big_quiet_step (fail))
        refine wpQuiet_nil ?_
        rintro _ ⟨z, rfl⟩
        obtain ⟨c1, hc1⟩ : ∃ c1, (o.celAt i L y.lot anyRoom (parLo o) t).set 0 (v0 + L t * y.lot) = c1 := ⟨_, rfl⟩
        have h1 := HCt.out.set 0 (v0 + L t * y.lot) (by omega)
        rw [hc1, Nat.zero_add] at h1
        have g1 := grownBy_set wr gs 0 (.int .i64 (v0 + L t * y.lot))
        have NN := Lib.hid (show NonNeg c1 ∧ tot c1 ≤ 70368744177664 ∧ c1.length = 32 from ⟨by rw [← hc1]; exact CO.out.1.set 0 (by omega), by have := tot_first CO.out.2.1 (L t * y.lot); rw [HV0.out] at this; rw [← hc1, this]; have := CO.out.2.2; omega, by rw [← hc1]; simp; exact CO.out.2.1⟩)
        have HYR := Lib.hid (show o.yrAt i L y.lot anyRoom (parLo o) t = sellAll o.A (o.V i t) o.nA 0 c1 by rw [← hc1, ← HV0.out]; rfl)
        obtain ⟨V1, hV1⟩ : ∃ V1, gw (wr.setCell ⟨gs, 0, none⟩ (.int .i64 (v0 + L t * y.lot))).drew z = V1 := ⟨_, rfl⟩
        have gV : wr.grownBy V1 (some gs) := by rw [← hV1]; exact grownBy_trans g1 (grownBy_of_below ((below_drew _).trans ((below_gw _ z).mono (Nat.le_refl _))) _)
        have C1 := Lib.hid (show CelAt V1 gs 0 c1 by rw [← hV1]; exact h1.drew.below (below_gw _ z))
        have R1 := Lib.hid (HRt.out.kept gV (fun b hb => by cases hb; exact .inl rfl))
        have A0 := Lib.hid ((gV.block _ (Array.getElem?_eq_some_iff.1 HB0.out).1 (by simp; omega)).trans HB0.out)
        have A1 := Lib.hid ((gV.block _ ly (by simp; omega)).trans HB1.out)
        have B1 := Lib.hid (HBt.out.grown gV HBt.out.size (fun b hb => by cases hb; omega))
        rw [hV1]
        clear hV1 gV g1 h1 hc1 y2 ly x1 l1 cn cf l2 CO
        obtain ⟨wo, rfl⟩ : ∃ wo, wo = wr := ⟨_, rfl⟩
        go_wp2_with fail
        go_loopw [13, 17] (fun s13 s17 wr => ∃ (p g2 c2 : Nat) (cc : List Int), p ≤ o.nA ∧ s13 = .slice (some ⟨g2, 0, none⟩) 32 c2 ∧ s17 = .int .i64 (p : Int) ∧ w.heap.size + 1 < g2 ∧ Hid (CelAt wr g2 0 cc) ∧ Hid (NonNeg cc ∧ tot cc ≤ 70368744177664 ∧ cc.length = 32) ∧ Hid (o.yrAt i L y.lot anyRoom (parLo o) t = sellAll o.A (o.V i t) (o.nA - p) p cc) ∧ Hid (LRows wr (w.heap.size + 2) g2 a t c (fun t => (o.yrAt i L y.lot anyRoom (parLo o) t).1)) ∧ Hid (wr.heap[w.heap.size]? = some (.cells o.cells 27 (0, 0))) ∧ Hid (wr.heap[w.heap.size + 1]? = some (.cells y.cells 29 (0, 0))) ∧ Hid (Below w.heap.size w wr)) (fun _ s17 _ => o.nA - (intOf s17).toNat)
        case atStart => exact ⟨0, gs, 32, c1, Nat.zero_le _, rfl, rfl, hgs, C1, NN, HYR, R1, A0, A1, B1⟩
        case round =>
          obtain ⟨p, g2, c2, cc, hp, rfl, rfl, hg2, HC2, NC2, HYP, HR2, HZ0, HZ1, HB2⟩ := hrel
          have u2 : wr.cell? ⟨w.heap.size, 3, none⟩ = some (.slice o.aA o.nA o.cA) := cell_of_block HZ0.out 3 (by simp [Otl.cells])
          have u3 : wr.cell? ⟨w.heap.size, 4, none⟩ = some (.slice o.aP o.nP o.cP) := cell_of_block HZ0.out 4 (by simp [Otl.cells])
          have l0 := (Array.getElem?_eq_some_iff.1 HZ0.out).1
          have lz1 := (Array.getElem?_eq_some_iff.1 HZ1.out).1
          by_cases hpA : p < o.nA
          · have hi := HRO.out.hi
            have htm2 := HRO.out.hm
            have vv := HRO.out.vals htm
            rcases HO.out.iA with h0 | ⟨b1, o1, ea, lb1, hc1⟩
            · omega
            rcases HO.out.iP with h0 | ⟨b2, o2, eb, lb2, hc2⟩
            · omega
            rcases HO.out.iY i hi with h0 | ⟨b3, o3, ec, lb3, hc3⟩
            · omega
            rcases HO.out.iV i hi t (by omega) with h0 | ⟨b4, o4, ed, lb4, hc4⟩
            · omega
            have y1 := (HB2.out.cell (p := ⟨b1, o1 + p, none⟩) lb1).trans (hc1 p hpA)
            have y2 := (HB2.out.cell (p := ⟨b2, o2 + i, none⟩) lb2).trans (hc2 i hi)
            have y3 := (HB2.out.cell (p := ⟨b3, o3 + t, none⟩) lb3).trans (hc3 t (by omega))
            have y4 := (HB2.out.cell (p := ⟨b4, o4 + p, none⟩) lb4).trans (hc4 p (by omega))
            dsimp only at y2 y3
            have m1 : b1 < wr.heap.size := Nat.lt_of_lt_of_le lb1 HB2.out.size
            have m2 : b2 < wr.heap.size := Nat.lt_of_lt_of_le lb2 HB2.out.size
            have m3 : b3 < wr.heap.size := Nat.lt_of_lt_of_le lb3 HB2.out.size
            have m4 : b4 < wr.heap.size := Nat.lt_of_lt_of_le lb4 HB2.out.size
            rw [ea] at u2
            rw [eb] at u3
            rw [ec] at y2
            rw [ed, vv.1] at y3
            have vp := vv.2 p hpA
            have ap := HOB.out.2.2.2.2.2.2.2.1 p hpA
            obtain ⟨k, hk9⟩ : ∃ k : Nat, o.A p = k := ⟨(o.A p).toNat, by omega⟩
            obtain ⟨v, hv9⟩ : ∃ v, o.V i t p = v := ⟨_, rfl⟩
            rw [hk9] at y1 ap
            rw [hv9] at y4 vp
            have hti : (t : Int) < (m : Int) := by omega
            have hpi : (p : Int) < (o.nA : Int) := by omega
            have hii : (i : Int) < (o.nP : Int) := by omega
            have htp : (t : Int) < (o.pN i : Int) := by omega
            have HSL := Lib.hid (fun z => rsell_any g2 c2 cc k v (gw wr z) (HC2.out.below (below_gw wr z)) NC2.out.1 (by have := NC2.out.2.1; omega) (by omega) (by omega) (by omega))
            have HS2 := Lib.hid (sellF_ok (c := cc) (a := k) (n := v) NC2.out.1 (by omega))
            have HS3 := Lib.hid (sellF_len cc k v)
            have HAL := Lib.hid (show sellAll o.A (o.V i t) (o.nA - p) p cc = if (sellF cc k v).2 = 0 then sellAll o.A (o.V i t) (o.nA - (p + 1)) (p + 1) (sellF cc k v).1 else ((sellF cc k v).1, 10) by rw [show o.nA - p = (o.nA - (p + 1)) + 1 by omega]; show (if (sellF cc (o.A p).toNat (o.V i t p)).2 = 0 then _ else _) = _; rw [hk9, hv9, Int.toNat_natCast])
            have HYP2 := Lib.hid (HYP.out.trans HAL.out)
            obtain ⟨F, N, hF⟩ : ∃ F N, sellF cc k v = (F, N) := ⟨_, _, rfl⟩
            have HF2 := HYP2.out; have HS4 := HS2.out; have HS5 := HS3.out
            rw [hF] at HF2 HS4 HS5
            dsimp only at HF2 HS4 HS5
            have HS4 := Lib.hid HS4; have HS5 := Lib.hid HS5; have HF2 := Lib.hid HF2
            have HSL := Lib.hid (fun z => by have := HSL.out z; rw [hF] at this; exact this)
            clear hF HS2 HS3 HAL HYP2 HYP hc1 hc2 hc3 hc4 hk9 hv9 ea eb ec ed htm2 vv
            go_wp2_with fail
            refine wp_region_steps (fun w' => ∃ x, w' = gw wr x) [([0, 1, 2, 3, 4, 5, 6, 7, 8, 9, 10, 11, 12, 13, 14, 15, 16], 17)] [18, 19, 20, 21, 22] [] (by kernel_rfl) (by kernel_rfl) ?_
            rintro _ ⟨x0, rfl⟩
            refine ⟨⟨_, rfl⟩, ?_⟩
            refine wpSeg_cons ?_
            simp only [pickL, List.getElem?_cons_zero, List.getElem?_cons_succ]
            repeat (go_big_quiet_step (fail))
            refine wpQuiet_nil ?_
            go_wp2_with fail
            rename_i KK hKK
            refine (HSL.out x0).mono ?_
            rintro e w2 ⟨b9, c9, rfl, hC9, hb9, hb⟩
            obtain ⟨x1, hx2⟩ := gw_of_below (thru hb (below_gw wr x0))
            clear hb
            subst hx2
            refine hKK _ _ (contQ_nil ⟨⟨_, rfl⟩, ?_⟩)
            clear hKK KK
            refine wpSeg_nil ?_
            simp only [pickL, List.getElem?_cons_zero, List.getElem?_cons_succ]
            repeat (go_big_quiet_step (fail))
            refine wpQuiet_nil ?_
            refine contN_nil ?_
            have hb9 : wr.heap.size ≤ b9 := by rw [gw_size] at hb9; omega
            have HPA := Lib.hid hpA
            have HC9 := Lib.hid hC9; clear hC9
            by_cases hN : N = 0
            · have d0 : decide (N = 0) = true := by simpa using hN
              have HN0 := Lib.hid (HF2.out.trans (if_pos hN))
              have gx := Lib.hid (below_gw wr x1)
              clear hN
              go_wp2_with fail
              go_roundw
              case rel => exact ⟨p + 1, b9, c9, F, HPA.out, rfl, by go_num, by omega, HC9, Lib.hid ⟨HS4.out.1, by have := HS4.out; have := NC2.out.2.1; omega, HS5.out.trans NC2.out.2.2⟩, HN0, Lib.hid ((HR2.out.rekey hb9).kept (grownBy_of_below gx.out none) (fun b hb => by cases hb)), Lib.hid ((gx.out.block _ (Array.getElem?_eq_some_iff.1 HZ0.out).1).trans HZ0.out), Lib.hid ((gx.out.block _ (Array.getElem?_eq_some_iff.1 HZ1.out).1).trans HZ1.out), Lib.hid (HB2.out.gw x1)⟩
              case measure => have := HPA.out; simp only [intOf]; omega
            · have d0 : decide (N = 0) = false := by simpa using hN
              have HN1 := Lib.hid (HF2.out.trans (if_neg hN))
              clear hN
              go_wp2_with fail
              refine bodyPost_ret (v := .tuple #[.slice none 0 0, .int .i64 (t : Int), .int .i64 10]) (by simp [results, Try.results39, go_sem, *]) rfl ?_
              have ee : o.errLo y i L t = 10 := congrArg Prod.snd HN1.out
              have tq : t = q := by rcases Nat.lt_or_ge t q with h | h; exact absurd (upto_zero (o.errLo y i L) m t (by rw [HQ.out]; exact h)) (by rw [ee]; decide); omega
              exact RunEnd.short (by omega) tq (by rw [← tq]; exact ee) (HB2.out.gw x1)
          · have hpn : p = o.nA := by omega
            have HYE := Lib.hid (show o.yrAt i L y.lot anyRoom (parLo o) t = (cc, 0) by rw [HYP.out, hpn, Nat.sub_self]; rfl)
            have HPN := Lib.hid hpn
            clear hpn HYP
            obtain ⟨rA, rC, ho1, ho2, ho3⟩ := HR2.out.kept (grownBy_of_below (below_alloc wr (.cells #[Value.slice (some ⟨g2, 0, none⟩) 32 c2] 22)) none) (fun b hb => by cases hb)
            have HO1 := Lib.hid ho1
            have HO2 := Lib.hid ho2
            have HO3 := Lib.hid ho3
            clear ho1 ho2 ho3
            obtain ⟨j0, jh, jy0, jy1, jy2⟩ := info_parts infoLI
            have JI := Lib.hid jh; have Y0 := Lib.hid jy0; have Y1 := Lib.hid jy1; have Y2 := Lib.hid jy2
            clear jh jy0 jy1 jy2
            have HN4 := Lib.hid (news_lit wr [Value.slice (some ⟨g2, 0, none⟩) 32 c2] 22)
            have szw := HB2.out.size
            go_upto_region 21 with (at_builtin; refine wpList_append_own_at _ rfl _ _ 32 rfl (w.heap.size + 2) 22 j0 (.slice none 0 0) 1 24 Try.underlying32 JI.out Y0.out Y1.out Y2.out rfl (by decide) _ t (rowsV t rA rC) rfl HO1.out ⟨wr.heap.size, 0, none⟩ 1 1 [.slice (some ⟨g2, 0, none⟩) 32 c2] rfl rfl HN4.out (by simp [Value.oneCell']) (by unfold maxLen; omega) (by omega) (by simp; omega) ?_; intro v9 w9 hown9 hgrow9 _ hat9)
            have hgrow9 : _ := hgrow9
            obtain ⟨W8, hW8⟩ : ∃ W8, wr.alloc (.cells #[Value.slice (some ⟨g2, 0, none⟩) 32 c2] 22) = W8 := ⟨_, rfl⟩
            have B8 : Below wr.heap.size wr W8 := by rw [← hW8]; exact below_alloc _ _
            have hO1 := HO1.out; have hO3 := HO3.out
            rw [hW8] at hO1 hO3
            have hgr : W8.grownBy w9 (Value.slice a t c).ownBlock := by rw [← hW8]; exact hgrow9
            have hat : v9.ownBlock = (Value.slice a t c).ownBlock ∨ ∃ b, v9.ownBlock = some b ∧ W8.heap.size ≤ b := by rcases hat9 with e | e; exact .inl e; exact .inr ⟨_, e, by rw [hW8]; exact Nat.le_refl _⟩
            have s8 := B8.size
            have lg2 := HC2.out.lt
            have PU := LRows.pushK (K2 := w9.heap.size) (M := fun t => (o.yrAt i L y.lot anyRoom (parLo o) t).1) hO1 HO2.out hO3 (by omega) (by omega) (fun r hr => by have e1 := HC2.out.cell r hr; rw [Nat.zero_add] at e1; rw [show (o.yrAt i L y.lot anyRoom (parLo o) t).1 = cc from congrArg Prod.fst HYE.out]; exact (B8.cell (p := ⟨g2, r, none⟩) lg2).trans e1) hgr hown9 hat (Nat.le_refl _)
            obtain ⟨a9, c9, rfl, hrow9⟩ := PU
            have ol := fun b hb => hO1.lt b hb
            have keepB : ∀ B, B < wr.heap.size → some B ≠ (Value.slice a t c).ownBlock → w9.heap[B]? = wr.heap[B]? := fun B h1 h3 => (hgr.block B (by omega) h3).trans (B8.block B h1)
            have nz : ∀ B, B < w.heap.size + 2 → some B ≠ (Value.slice a t c).ownBlock := fun B h e => by have := (ol B e.symm).1; omega
            have HC9 := Lib.hid (HC2.out.same (keepB g2 lg2 (fun e => HO2.out g2 e.symm rfl)))
            have HA9 := Lib.hid ((keepB _ l0 (nz _ (by omega))).trans HZ0.out)
            have HA8 := Lib.hid ((keepB _ lz1 (nz _ (by omega))).trans HZ1.out)
            have HB9 := Lib.hid ((HB2.out.trans (B8.mono szw)).grown hgr (by omega) (fun b e => by have := (ol b e).1; omega))
            have HR9 := Lib.hid hrow9
            clear hrow9 keepB nz ol hat hgr hO1 hO3 hown9 hgrow9 hat9 hW8 B8 HO1 HO2 HO3 HN4 JI Y0 Y1 Y2
            have ct0 : t < q := by rcases Nat.lt_or_ge t q with h | h; exact h; exact absurd (show o.errLo y i L (upto (o.errLo y i L) m) = 0 by rw [HQ.out, show q = t by omega]; exact congrArg Prod.snd HYE.out) (upto_stop (o.errLo y i L) m (by rw [HQ.out]; omega))
            have HCS := Lib.hid (show lateF (parLo o) cc = o.celAt i L y.lot anyRoom (parLo o) (t + 1) by rw [celAt_succ, HYE.out])
            have RL := Lib.hid (rlater_lo o g2 c2 cc w9 HC9.out NC2.out.1 (by have := NC2.out.2.1; omega) HOB.out.2.2.1 HOB.out.2.2.2.1 HOB.out.2.2.2.2.1)
            rw [HCS.out] at RL
            unfold Otl.val at RL
            have k0 : w9.cell? ⟨w.heap.size, 0, none⟩ = some (.slice o.aS o.nS o.cS) := cell_of_block HA9.out 0 (by simp [Otl.cells])
            have k1 : w9.cell? ⟨w.heap.size, 1, none⟩ = some (.int .i64 o.kl) := cell_of_block HA9.out 1 (by simp [Otl.cells])
            have k2 : w9.cell? ⟨w.heap.size, 2, none⟩ = some (.int .i64 o.kh) := cell_of_block HA9.out 2 (by simp [Otl.cells])
            have k3 : w9.cell? ⟨w.heap.size, 3, none⟩ = some (.slice o.aA o.nA o.cA) := cell_of_block HA9.out 3 (by simp [Otl.cells])
            have k4 : w9.cell? ⟨w.heap.size, 4, none⟩ = some (.slice o.aP o.nP o.cP) := cell_of_block HA9.out 4 (by simp [Otl.cells])
            have kk := (Array.getElem?_eq_some_iff.1 HA9.out).1
            clear u2 u3 l0 lz1
            go_wp2_with fail
            refine RL.out.mono ?_
            rintro e w2 ⟨b9, rfl, hCb, hb9, hbw⟩
            have s9 := HB9.out.size
            have l8 := (Array.getElem?_eq_some_iff.1 HA8.out).1
            have HCb := Lib.hid hCb; have HBW := Lib.hid hbw; clear hCb hbw
            go_wp2_with fail
            go_roundw
            case rel => exact ⟨t + 1, b9, a9, c9, ct0, rfl, rfl, by go_num, by omega, HCb, Lib.hid ((HR9.out.rekey hb9).kept (grownBy_of_below HBW.out none) (fun b hb => by cases hb)), Lib.hid ((HBW.out.block _ (Array.getElem?_eq_some_iff.1 HA9.out).1).trans HA9.out), Lib.hid ((HBW.out.block _ (Array.getElem?_eq_some_iff.1 HA8.out).1).trans HA8.out), Lib.hid (HB9.out.trans (HBW.out.mono s9))⟩
            case measure => simp only [intOf]; omega
      · have htq2 : t = m := by omega
        have HTM := Lib.hid htq2; clear htq2
        go_wp2_with fail
        refine bodyPost_ret (v := .tuple #[.slice a t c, .int .i64 (m : Int), .int .i64 0]) (by simp [results, Try.results39, go_sem, *]) rfl ?_
        have ht := HTM.out
        subst ht
        exact RunEnd.full (by omega) HRt.out.out HBt.out

set_option maxRecDepth 100000 in
set_option maxHeartbeats 16000000 in
theorem rrun_hi (o : Otl) (y : Lyg) (aL : Option Addr) (m cL : Nat) (L : Nat → Int) (i : Nat) (w : World) (hRO : RunOk o i m L y.lot (parHi o)) (hO : o.In w) (hL : IntsAt w aL m L) :
    Calls Try.prog 39 #[o.val, y.val, .slice aL m cL, .int .i64 (i : Int), .bool true] w (RunEnd (o.errHi y i L) (fun t => (o.yrAt i L y.lot y.roomB (parHi o) t).1) m (upto (o.errHi y i L) m) w) := by
  have OB := outB_t hRO.B
  have m10 := hRO.m10
  obtain ⟨q, hq⟩ : ∃ q, upto (o.errHi y i L) m = q := ⟨_, rfl⟩
  rw [hq]
  have hqm : q ≤ m := by rw [← hq]; exact upto_le _ _
  have HQ := Lib.hid hq; clear hq
  unfold Otl.val Lyg.val
  obtain ⟨W1, hW1⟩ : ∃ W1, (w.alloc (.cells #[.slice o.aS o.nS o.cS, .int .i64 o.kl, .int .i64 o.kh, .slice o.aA o.nA o.cA, .slice o.aP o.nP o.cP] 27)).alloc (.cells #[.slice y.aR y.nR y.cR, .slice y.aM y.nM y.cM, .int .i64 y.lot, .int .i64 y.room] 29) = W1 := ⟨_, rfl⟩
  have hBc : Below w.heap.size w W1 := by rw [← hW1]; exact (below_alloc _ _).alloc (by simp) _
  have zc0 : W1.heap[w.heap.size]? = some (.cells #[.slice o.aS o.nS o.cS, .int .i64 o.kl, .int .i64 o.kh, .slice o.aA o.nA o.cA, .slice o.aP o.nP o.cP] 27 (0, 0)) := by rw [← hW1]; exact alloc_keep (alloc_at rfl)
  have zc1 : W1.heap[w.heap.size + 1]? = some (.cells #[.slice y.aR y.nR y.cR, .slice y.aM y.nM y.cM, .int .i64 y.lot, .int .i64 y.room] 29 (0, 0)) := by rw [← hW1]; exact alloc_at (by simp)
  have c00 : W1.cell? ⟨w.heap.size, 0, none⟩ = some (.slice o.aS o.nS o.cS) := cell_of_block zc0 0 (by simp)
  have c01 : W1.cell? ⟨w.heap.size, 1, none⟩ = some (.int .i64 o.kl) := cell_of_block zc0 1 (by simp)
  have c02 : W1.cell? ⟨w.heap.size, 2, none⟩ = some (.int .i64 o.kh) := cell_of_block zc0 2 (by simp)
  have c03 : W1.cell? ⟨w.heap.size, 3, none⟩ = some (.slice o.aA o.nA o.cA) := cell_of_block zc0 3 (by simp)
  have c04 : W1.cell? ⟨w.heap.size, 4, none⟩ = some (.slice o.aP o.nP o.cP) := cell_of_block zc0 4 (by simp)
  have c10 : W1.cell? ⟨w.heap.size + 1, 0, none⟩ = some (.slice y.aR y.nR y.cR) := cell_of_block zc1 0 (by simp)
  have c11 : W1.cell? ⟨w.heap.size + 1, 1, none⟩ = some (.slice y.aM y.nM y.cM) := cell_of_block zc1 1 (by simp)
  have c12 : W1.cell? ⟨w.heap.size + 1, 2, none⟩ = some (.int .i64 y.lot) := cell_of_block zc1 2 (by simp)
  have c13 : W1.cell? ⟨w.heap.size + 1, 3, none⟩ = some (.int .i64 y.room) := cell_of_block zc1 3 (by simp)
  have lc0 := (Array.getElem?_eq_some_iff.1 zc0).1
  have lc1 := (Array.getElem?_eq_some_iff.1 zc1).1
  have Zc0 := Lib.hid zc0
  have Zc1 := Lib.hid zc1
  clear zc0 zc1
  have HBc := Lib.hid hBc; clear hBc
  have HWc := Lib.hid hW1; clear hW1
  obtain ⟨W2, MK, hz, hb⟩ := made_row W1
  have HB := Lib.hid (HBc.out.trans (hb.mono HBc.out.size))
  have s1 := HBc.out.size
  have Z0 := Lib.hid ((hb.block _ lc0).trans Zc0.out); have Z1 := Lib.hid ((hb.block _ lc1).trans Zc1.out)
  have HO := Lib.hid hO; have HL := Lib.hid hL; have HRO := Lib.hid hRO; have HOB := Lib.hid OB
  obtain ⟨g, hg⟩ : ∃ g, W1.heap.size = g := ⟨_, rfl⟩
  rw [hg] at MK hz
  have lg : w.heap.size + 1 < g := by rw [← hg]; exact lc1
  have nS := OB.1
  have nA4 : o.nA ≤ 4 := OB.2.2.2.2.2.2.1
  have HZ := Lib.hid (show CelAt W2 g 0 (firstC o.S 0) by rw [firstC_zero]; exact hz)
  clear hb hz hg hO hL hRO OB s1 lc0 lc1 c00 c01 c02 c03 c04 c10 c11 c12 c13
  go_enter Try.func39, Try.ntmps39
  go_upto_region 1 with (fail)
  rw [HWc.out]
  go_wp2_with fail
  clear MK
  go_loopw [14] (fun s wr => ∃ k : Nat, k ≤ o.nS ∧ s = .int .i64 (k : Int) ∧ Hid (CelAt wr g 0 (firstC o.S k)) ∧ Hid (wr.heap[w.heap.size]? = some (.cells o.cells 27 (0, 0))) ∧ Hid (wr.heap[w.heap.size + 1]? = some (.cells y.cells 29 (0, 0))) ∧ Hid (Below w.heap.size w wr)) (fun s _ => o.nS - (intOf s).toNat)
  case atStart => exact ⟨0, Nat.zero_le _, rfl, HZ, Z0, Z1, HB⟩
  case round =>
    obtain ⟨k, hk, rfl, HC, H0, H1, HW⟩ := hrel
    have x0 : wr.cell? ⟨w.heap.size, 0, none⟩ = some (.slice o.aS o.nS o.cS) := cell_of_block H0.out 0 (by simp [Otl.cells])
    have l0 := (Array.getElem?_eq_some_iff.1 H0.out).1
    by_cases hlt : k < o.nS
    · rcases HO.out.iS with h0 | ⟨b, off, ea, lb, hc⟩
      · omega
      have x1 := (HW.out.cell (p := ⟨b, off + k, none⟩) lb).trans (hc k hlt)
      have l1 : b < wr.heap.size := Nat.lt_of_lt_of_le lb HW.out.size
      rw [ea] at x0
      have cn := HC.out.cell k (by omega)
      rw [Nat.zero_add] at cn
      have cf := HC.out.free k
      have l2 := HC.out.lt
      have hk1 : (k : Int) < (o.nS : Int) := by omega
      have hk2 : (k : Int) < 32 := by omega
      have HC2 := HC.out.set k (o.S k) (by omega)
      rw [← firstC_set (by omega), Nat.zero_add] at HC2
      have HCs := Lib.hid HC2
      have g2 := Lib.hid (grownBy_set wr g k (.int .i64 (o.S k)))
      clear HC2 hc ea
      go_wp2_with fail
      go_roundw
      case rel => exact ⟨k + 1, by omega, by go_num, HCs, Lib.hid ((g2.out.block _ l0 (by simp; omega)).trans H0.out), Lib.hid ((g2.out.block _ (Array.getElem?_eq_some_iff.1 H1.out).1 (by simp; omega)).trans H1.out), Lib.hid (HW.out.grown g2.out HW.out.size (fun b hb => by cases hb; omega))⟩
      case measure => simp [intOf]; omega
    · obtain ⟨V, rfl⟩ : ∃ V : World, V = wr := ⟨_, rfl⟩
      have hks : k = o.nS := by omega
      have HC0 := Lib.hid (show CelAt V g 0 (o.celAt i L y.lot y.roomB (parHi o) 0) by rw [hks] at HC; exact HC.out)
      have HKS := Lib.hid hks
      clear hks
      go_wp2_with fail
      clear x0 l0
      go_loopw [13, 15, 16] (fun s13 s15 s16 wr => ∃ (t gs : Nat) (a : Option Addr) (c : Nat), t ≤ q ∧ s13 = .slice (some ⟨gs, 0, none⟩) 32 32 ∧ s15 = .slice a t c ∧ s16 = .int .i64 (t : Int) ∧ w.heap.size + 1 < gs ∧ Hid (CelAt wr gs 0 (o.celAt i L y.lot y.roomB (parHi o) t)) ∧ Hid (LRows wr (w.heap.size + 2) gs a t c (fun t => (o.yrAt i L y.lot y.roomB (parHi o) t).1)) ∧ Hid (wr.heap[w.heap.size]? = some (.cells o.cells 27 (0, 0))) ∧ Hid (wr.heap[w.heap.size + 1]? = some (.cells y.cells 29 (0, 0))) ∧ Hid (Below w.heap.size w wr)) (fun _ _ s16 _ => m - (intOf s16).toNat)
      case atStart => exact ⟨0, g, none, 0, Nat.zero_le _, rfl, rfl, rfl, lg, HC0, Lib.hid (LRows.nil _ _ _ _), H0, H1, HW⟩
      case round =>
      obtain ⟨t, gs, a, c, htq, rfl, rfl, rfl, hgs, HCt, HRt, HB0, HB1, HBt⟩ := hrel
      have y2 : wr.cell? ⟨w.heap.size + 1, 2, none⟩ = some (.int .i64 y.lot) := cell_of_block HB1.out 2 (by simp [Lyg.cells])
      have ly := (Array.getElem?_eq_some_iff.1 HB1.out).1
      by_cases htm : t < m
      · rcases HL.out with h0 | ⟨b, off, ea, lb, hc⟩
        · omega
        have x1 := (HBt.out.cell (p := ⟨b, off + t, none⟩) lb).trans (hc t htm)
        have l1 : b < wr.heap.size := Nat.lt_of_lt_of_le lb HBt.out.size
        subst ea
        obtain ⟨v0, hv0⟩ : ∃ v0, (o.celAt i L y.lot y.roomB (parHi o) t).getD 0 0 = v0 := ⟨_, rfl⟩
        have CO := celAt_ok (room := y.roomB) HRO.out t (by omega)
        have va := CO.1.getD 0
        have vb := CO.1.le_tot 0
        have vc := CO.2.2
        rw [hv0] at va vb
        have cn := HCt.out.cell 0 (by omega)
        rw [hv0, Nat.zero_add] at cn
        have cf := HCt.out.free 0
        have l2 := HCt.out.lt
        have ht1 : (t : Int) < (m : Int) := by omega
        have lr := HRO.out.laid htm
        have hw1 : IntKind.i64.wrap (L t * y.lot) = L t * y.lot := IntWalk.i64_in _ (by omega)
        have hw2 : IntKind.i64.wrap (v0 + L t * y.lot) = v0 + L t * y.lot := IntWalk.i64_in _ (by omega)
        have HV0 := Lib.hid hv0
        have CO := Lib.hid CO
        clear hv0 hc vb vc
        go_wp2_with fail
        go_region
        go_wp2_with fail
        obtain ⟨c1, hc1⟩ : ∃ c1, (o.celAt i L y.lot y.roomB (parHi o) t).set 0 (v0 + L t * y.lot) = c1 := ⟨_, rfl⟩
        have h1 := HCt.out.set 0 (v0 + L t * y.lot) (by omega)
        rw [hc1, Nat.zero_add] at h1
        have g1 := grownBy_set wr gs 0 (.int .i64 (v0 + L t * y.lot))
        obtain ⟨V0, hV0⟩ : ∃ V0, (wr.setCell ⟨gs, 0, none⟩ (.int .i64 (v0 + L t * y.lot))).drew = V0 := ⟨_, rfl⟩
        have h0 := h1.drew
        have gD := grownBy_trans g1 (grownBy_of_below (below_drew _) _)
        rw [hV0] at h0 gD ⊢
        have C0 := Lib.hid h0
        have NN := Lib.hid (show NonNeg c1 ∧ tot c1 ≤ 70368744177664 ∧ c1.length = 32 from ⟨by rw [← hc1]; exact CO.out.1.set 0 (by omega), by have := tot_first CO.out.2.1 (L t * y.lot); rw [HV0.out] at this; rw [← hc1, this]; have := CO.out.2.2; omega, by rw [← hc1]; simp; exact CO.out.2.1⟩)
        have HYC := Lib.hid (show o.yrAt i L y.lot y.roomB (parHi o) t = if y.roomB (tot c1) = true then sellAll o.A (o.V i t) o.nA 0 c1 else (c1, 9) by rw [← hc1, ← HV0.out]; rfl)
        have D0 := Lib.hid ((gD.block _ (Array.getElem?_eq_some_iff.1 HB0.out).1 (by simp; omega)).trans HB0.out)
        have D1 := Lib.hid ((gD.block _ ly (by simp; omega)).trans HB1.out)
        have RD := Lib.hid (HRt.out.kept gD (fun b hb => by cases hb; exact .inl rfl))
        have BD := Lib.hid (HBt.out.grown gD HBt.out.size (fun b hb => by cases hb; omega))
        have y3 : V0.cell? ⟨w.heap.size + 1, 3, none⟩ = some (.int .i64 y.room) := cell_of_block D1.out 3 (by simp [Lyg.cells])
        have ly3 := (Array.getElem?_eq_some_iff.1 D1.out).1
        have SU := Lib.hid (fun z => (rsum_any gs 32 c1 (gw V0 z) (C0.out.below (below_gw _ z)) NN.out.1 (by have := NN.out.2.1; omega)).mono (fun e w2 h => show e = .returned (.int .i64 (tot c1)) ∧ Below (gw V0 z).heap.size (gw V0 z) w2 from ⟨h.1, h.2 ▸ Below.refl _ _⟩))
        clear hV0 gD g1 h1 h0 hc1 y2 ly x1 l1 cn cf l2 CO
        by_cases hroom : tot c1 ≤ y.room
        rotate_left
        · have d1 : decide (y.room < tot c1) = true := by simp; omega
          have HN1 := Lib.hid (HYC.out.trans (if_neg (by simpa [Lyg.roomB] using hroom)))
          clear hroom
          refine wp_region_gw (by kernel_rfl) (by kernel_rfl) ?_
          repeat (go_big_quiet_step (exact Calls.gw_of (SU.out _)))
          refine wpQuiet_nil ?_
          rintro _ ⟨z, rfl⟩
          go_wp2_with fail
          refine bodyPost_ret (v := .tuple #[.slice none 0 0, .int .i64 (t : Int), .int .i64 9]) (by simp [results, Try.results39, go_sem, *]) rfl ?_
          have ee : o.errHi y i L t = 9 := congrArg Prod.snd HN1.out
          have tq : t = q := by rcases Nat.lt_or_ge t q with h | h; exact absurd (upto_zero (o.errHi y i L) m t (by rw [HQ.out]; exact h)) (by rw [ee]; decide); omega
          exact RunEnd.short (by omega) tq (by rw [← tq]; exact ee) (BD.out.gw z)
        have d1 : decide (y.room < tot c1) = false := by simp; omega
        have HYR := Lib.hid (HYC.out.trans (if_pos (by simpa [Lyg.roomB] using hroom)))
        clear hroom
        refine wp_region_gw (by kernel_rfl) (by kernel_rfl) ?_
        repeat (go_big_quiet_step (exact Calls.gw_of (SU.out _)))
        refine wpQuiet_nil ?_
        rintro _ ⟨z, rfl⟩
        clear d1 y3 ly3
        obtain ⟨V1, hV1⟩ : ∃ V1, gw V0 z = V1 := ⟨_, rfl⟩
        have gV : V0.grownBy V1 none := by rw [← hV1]; exact grownBy_of_below (below_gw _ z) _
        have C1 := Lib.hid (show CelAt V1 gs 0 c1 by rw [← hV1]; exact C0.out.below (below_gw _ z))
        have R1 := Lib.hid (RD.out.kept gV (fun b hb => by cases hb))
        have A0 := Lib.hid ((gV.block _ (Array.getElem?_eq_some_iff.1 D0.out).1 (by simp)).trans D0.out)
        have A1 := Lib.hid ((gV.block _ (Array.getElem?_eq_some_iff.1 D1.out).1 (by simp)).trans D1.out)
        have B1 := Lib.hid (BD.out.grown gV BD.out.size (fun b hb => by cases hb))
        rw [hV1]
        clear hV1 gV C0 D0 D1 RD BD SU
        obtain ⟨wo, rfl⟩ : ∃ wo, wo = wr := ⟨_, rfl⟩
        go_wp2_with fail
        go_loopw [13, 17] (fun s13 s17 wr => ∃ (p g2 c2 : Nat) (cc : List Int), p ≤ o.nA ∧ s13 = .slice (some ⟨g2, 0, none⟩) 32 c2 ∧ s17 = .int .i64 (p : Int) ∧ w.heap.size + 1 < g2 ∧ Hid (CelAt wr g2 0 cc) ∧ Hid (NonNeg cc ∧ tot cc ≤ 70368744177664 ∧ cc.length = 32) ∧ Hid (o.yrAt i L y.lot y.roomB (parHi o) t = sellAll o.A (o.V i t) (o.nA - p) p cc) ∧ Hid (LRows wr (w.heap.size + 2) g2 a t c (fun t => (o.yrAt i L y.lot y.roomB (parHi o) t).1)) ∧ Hid (wr.heap[w.heap.size]? = some (.cells o.cells 27 (0, 0))) ∧ Hid (wr.heap[w.heap.size + 1]? = some (.cells y.cells 29 (0, 0))) ∧ Hid (Below w.heap.size w wr)) (fun _ s17 _ => o.nA - (intOf s17).toNat)
        case atStart => exact ⟨0, gs, 32, c1, Nat.zero_le _, rfl, rfl, hgs, C1, NN, HYR, R1, A0, A1, B1⟩
        case round =>
          obtain ⟨p, g2, c2, cc, hp, rfl, rfl, hg2, HC2, NC2, HYP, HR2, HZ0, HZ1, HB2⟩ := hrel
          have u2 : wr.cell? ⟨w.heap.size, 3, none⟩ = some (.slice o.aA o.nA o.cA) := cell_of_block HZ0.out 3 (by simp [Otl.cells])
          have u3 : wr.cell? ⟨w.heap.size, 4, none⟩ = some (.slice o.aP o.nP o.cP) := cell_of_block HZ0.out 4 (by simp [Otl.cells])
          have l0 := (Array.getElem?_eq_some_iff.1 HZ0.out).1
          have lz1 := (Array.getElem?_eq_some_iff.1 HZ1.out).1
          by_cases hpA : p < o.nA
          · have hi := HRO.out.hi
            have htm2 := HRO.out.hm
            have vv := HRO.out.vals htm
            rcases HO.out.iA with h0 | ⟨b1, o1, ea, lb1, hc1⟩
            · omega
            rcases HO.out.iP with h0 | ⟨b2, o2, eb, lb2, hc2⟩
            · omega
            rcases HO.out.iY i hi with h0 | ⟨b3, o3, ec, lb3, hc3⟩
            · omega
            rcases HO.out.iV i hi t (by omega) with h0 | ⟨b4, o4, ed, lb4, hc4⟩
            · omega
            have y1 := (HB2.out.cell (p := ⟨b1, o1 + p, none⟩) lb1).trans (hc1 p hpA)
            have y2 := (HB2.out.cell (p := ⟨b2, o2 + i, none⟩) lb2).trans (hc2 i hi)
            have y3 := (HB2.out.cell (p := ⟨b3, o3 + t, none⟩) lb3).trans (hc3 t (by omega))
            have y4 := (HB2.out.cell (p := ⟨b4, o4 + p, none⟩) lb4).trans (hc4 p (by omega))
            dsimp only at y2 y3
            have m1 : b1 < wr.heap.size := Nat.lt_of_lt_of_le lb1 HB2.out.size
            have m2 : b2 < wr.heap.size := Nat.lt_of_lt_of_le lb2 HB2.out.size
            have m3 : b3 < wr.heap.size := Nat.lt_of_lt_of_le lb3 HB2.out.size
            have m4 : b4 < wr.heap.size := Nat.lt_of_lt_of_le lb4 HB2.out.size
            rw [ea] at u2
            rw [eb] at u3
            rw [ec] at y2
            rw [ed, vv.1] at y3
            have vp := vv.2 p hpA
            have ap := HOB.out.2.2.2.2.2.2.2.1 p hpA
            obtain ⟨k, hk9⟩ : ∃ k : Nat, o.A p = k := ⟨(o.A p).toNat, by omega⟩
            obtain ⟨v, hv9⟩ : ∃ v, o.V i t p = v := ⟨_, rfl⟩
            rw [hk9] at y1 ap
            rw [hv9] at y4 vp
            have hti : (t : Int) < (m : Int) := by omega
            have hpi : (p : Int) < (o.nA : Int) := by omega
            have hii : (i : Int) < (o.nP : Int) := by omega
            have htp : (t : Int) < (o.pN i : Int) := by omega
            have HSL := Lib.hid (fun z => rsell_any g2 c2 cc k v (gw wr z) (HC2.out.below (below_gw wr z)) NC2.out.1 (by have := NC2.out.2.1; omega) (by omega) (by omega) (by omega))
            have HS2 := Lib.hid (sellF_ok (c := cc) (a := k) (n := v) NC2.out.1 (by omega))
            have HS3 := Lib.hid (sellF_len cc k v)
            have HAL := Lib.hid (show sellAll o.A (o.V i t) (o.nA - p) p cc = if (sellF cc k v).2 = 0 then sellAll o.A (o.V i t) (o.nA - (p + 1)) (p + 1) (sellF cc k v).1 else ((sellF cc k v).1, 10) by rw [show o.nA - p = (o.nA - (p + 1)) + 1 by omega]; show (if (sellF cc (o.A p).toNat (o.V i t p)).2 = 0 then _ else _) = _; rw [hk9, hv9, Int.toNat_natCast])
            have HYP2 := Lib.hid (HYP.out.trans HAL.out)
            obtain ⟨F, N, hF⟩ : ∃ F N, sellF cc k v = (F, N) := ⟨_, _, rfl⟩
            have HF2 := HYP2.out; have HS4 := HS2.out; have HS5 := HS3.out
            rw [hF] at HF2 HS4 HS5
            dsimp only at HF2 HS4 HS5
            have HS4 := Lib.hid HS4; have HS5 := Lib.hid HS5; have HF2 := Lib.hid HF2
            have HSL := Lib.hid (fun z => by have := HSL.out z; rw [hF] at this; exact this)
            clear hF HS2 HS3 HAL HYP2 HYP hc1 hc2 hc3 hc4 hk9 hv9 ea eb ec ed htm2 vv
            go_wp2_with fail
            refine wp_region_steps (fun w' => ∃ x, w' = gw wr x) [([0, 1, 2, 3, 4, 5, 6, 7, 8, 9, 10, 11, 12, 13, 14, 15, 16], 17)] [18, 19, 20, 21, 22] [] (by kernel_rfl) (by kernel_rfl) ?_
            rintro _ ⟨x0, rfl⟩
            refine ⟨⟨_, rfl⟩, ?_⟩
            refine wpSeg_cons ?_
            simp only [pickL, List.getElem?_cons_zero, List.getElem?_cons_succ]
            repeat (go_big_quiet_step (fail))
            refine wpQuiet_nil ?_
            go_wp2_with fail
            rename_i KK hKK
            refine (HSL.out x0).mono ?_
            rintro e w2 ⟨b9, c9, rfl, hC9, hb9, hb⟩
            obtain ⟨x1, hx2⟩ := gw_of_below (thru hb (below_gw wr x0))
            clear hb
            subst hx2
            refine hKK _ _ (contQ_nil ⟨⟨_, rfl⟩, ?_⟩)
            clear hKK KK
            refine wpSeg_nil ?_
            simp only [pickL, List.getElem?_cons_zero, List.getElem?_cons_succ]
            repeat (go_big_quiet_step (fail))
            refine wpQuiet_nil ?_
            refine contN_nil ?_
            have hb9 : wr.heap.size ≤ b9 := by rw [gw_size] at hb9; omega
            have HPA := Lib.hid hpA
            have HC9 := Lib.hid hC9; clear hC9
            by_cases hN : N = 0
            · have d0 : decide (N = 0) = true := by simpa using hN
              have HN0 := Lib.hid (HF2.out.trans (if_pos hN))
              have gx := Lib.hid (below_gw wr x1)
              clear hN
              go_wp2_with fail
              go_roundw
              case rel => exact ⟨p + 1, b9, c9, F, HPA.out, rfl, by go_num, by omega, HC9, Lib.hid ⟨HS4.out.1, by have := HS4.out; have := NC2.out.2.1; omega, HS5.out.trans NC2.out.2.2⟩, HN0, Lib.hid ((HR2.out.rekey hb9).kept (grownBy_of_below gx.out none) (fun b hb => by cases hb)), Lib.hid ((gx.out.block _ (Array.getElem?_eq_some_iff.1 HZ0.out).1).trans HZ0.out), Lib.hid ((gx.out.block _ (Array.getElem?_eq_some_iff.1 HZ1.out).1).trans HZ1.out), Lib.hid (HB2.out.gw x1)⟩
              case measure => have := HPA.out; simp only [intOf]; omega
            · have d0 : decide (N = 0) = false := by simpa using hN
              have HN1 := Lib.hid (HF2.out.trans (if_neg hN))
              clear hN
              go_wp2_with fail
              refine bodyPost_ret (v := .tuple #[.slice none 0 0, .int .i64 (t : Int), .int .i64 10]) (by simp [results, Try.results39, go_sem, *]) rfl ?_
              have ee : o.errHi y i L t = 10 := congrArg Prod.snd HN1.out
              have tq : t = q := by rcases Nat.lt_or_ge t q with h | h; exact absurd (upto_zero (o.errHi y i L) m t (by rw [HQ.out]; exact h)) (by rw [ee]; decide); omega
              exact RunEnd.short (by omega) tq (by rw [← tq]; exact ee) (HB2.out.gw x1)
          · have hpn : p = o.nA := by omega
            have HYE := Lib.hid (show o.yrAt i L y.lot y.roomB (parHi o) t = (cc, 0) by rw [HYP.out, hpn, Nat.sub_self]; rfl)
            have HPN := Lib.hid hpn
            clear hpn HYP
            obtain ⟨rA, rC, ho1, ho2, ho3⟩ := HR2.out.kept (grownBy_of_below (below_alloc wr (.cells #[Value.slice (some ⟨g2, 0, none⟩) 32 c2] 22)) none) (fun b hb => by cases hb)
            have HO1 := Lib.hid ho1
            have HO2 := Lib.hid ho2
            have HO3 := Lib.hid ho3
            clear ho1 ho2 ho3
            obtain ⟨j0, jh, jy0, jy1, jy2⟩ := info_parts infoLI
            have JI := Lib.hid jh; have Y0 := Lib.hid jy0; have Y1 := Lib.hid jy1; have Y2 := Lib.hid jy2
            clear jh jy0 jy1 jy2
            have HN4 := Lib.hid (news_lit wr [Value.slice (some ⟨g2, 0, none⟩) 32 c2] 22)
            have szw := HB2.out.size
            go_upto_region 21 with (at_builtin; refine wpList_append_own_at _ rfl _ _ 32 rfl (w.heap.size + 2) 22 j0 (.slice none 0 0) 1 24 Try.underlying32 JI.out Y0.out Y1.out Y2.out rfl (by decide) _ t (rowsV t rA rC) rfl HO1.out ⟨wr.heap.size, 0, none⟩ 1 1 [.slice (some ⟨g2, 0, none⟩) 32 c2] rfl rfl HN4.out (by simp [Value.oneCell']) (by unfold maxLen; omega) (by omega) (by simp; omega) ?_; intro v9 w9 hown9 hgrow9 _ hat9)
            have hgrow9 : _ := hgrow9
            obtain ⟨W8, hW8⟩ : ∃ W8, wr.alloc (.cells #[Value.slice (some ⟨g2, 0, none⟩) 32 c2] 22) = W8 := ⟨_, rfl⟩
            have B8 : Below wr.heap.size wr W8 := by rw [← hW8]; exact below_alloc _ _
            have hO1 := HO1.out; have hO3 := HO3.out
            rw [hW8] at hO1 hO3
            have hgr : W8.grownBy w9 (Value.slice a t c).ownBlock := by rw [← hW8]; exact hgrow9
            have hat : v9.ownBlock = (Value.slice a t c).ownBlock ∨ ∃ b, v9.ownBlock = some b ∧ W8.heap.size ≤ b := by rcases hat9 with e | e; exact .inl e; exact .inr ⟨_, e, by rw [hW8]; exact Nat.le_refl _⟩
            have s8 := B8.size
            have lg2 := HC2.out.lt
            have PU := LRows.pushK (K2 := w9.heap.size) (M := fun t => (o.yrAt i L y.lot y.roomB (parHi o) t).1) hO1 HO2.out hO3 (by omega) (by omega) (fun r hr => by have e1 := HC2.out.cell r hr; rw [Nat.zero_add] at e1; rw [show (o.yrAt i L y.lot y.roomB (parHi o) t).1 = cc from congrArg Prod.fst HYE.out]; exact (B8.cell (p := ⟨g2, r, none⟩) lg2).trans e1) hgr hown9 hat (Nat.le_refl _)
            obtain ⟨a9, c9, rfl, hrow9⟩ := PU
            have ol := fun b hb => hO1.lt b hb
            have keepB : ∀ B, B < wr.heap.size → some B ≠ (Value.slice a t c).ownBlock → w9.heap[B]? = wr.heap[B]? := fun B h1 h3 => (hgr.block B (by omega) h3).trans (B8.block B h1)
            have nz : ∀ B, B < w.heap.size + 2 → some B ≠ (Value.slice a t c).ownBlock := fun B h e => by have := (ol B e.symm).1; omega
            have HC9 := Lib.hid (HC2.out.same (keepB g2 lg2 (fun e => HO2.out g2 e.symm rfl)))
            have HA9 := Lib.hid ((keepB _ l0 (nz _ (by omega))).trans HZ0.out)
            have HA8 := Lib.hid ((keepB _ lz1 (nz _ (by omega))).trans HZ1.out)
            have HB9 := Lib.hid ((HB2.out.trans (B8.mono szw)).grown hgr (by omega) (fun b e => by have := (ol b e).1; omega))
            have HR9 := Lib.hid hrow9
            clear hrow9 keepB nz ol hat hgr hO1 hO3 hown9 hgrow9 hat9 hW8 B8 HO1 HO2 HO3 HN4 JI Y0 Y1 Y2
            have ct0 : t < q := by rcases Nat.lt_or_ge t q with h | h; exact h; exact absurd (show o.errHi y i L (upto (o.errHi y i L) m) = 0 by rw [HQ.out, show q = t by omega]; exact congrArg Prod.snd HYE.out) (upto_stop (o.errHi y i L) m (by rw [HQ.out]; omega))
            have HCS := Lib.hid (show lateF (parHi o) cc = o.celAt i L y.lot y.roomB (parHi o) (t + 1) by rw [celAt_succ, HYE.out])
            have RL := Lib.hid (rlater_hi o g2 c2 cc w9 HC9.out NC2.out.1 (by have := NC2.out.2.1; omega) HOB.out.2.2.1 HOB.out.2.2.2.1 HOB.out.2.2.2.2.1)
            rw [HCS.out] at RL
            unfold Otl.val at RL
            have k0 : w9.cell? ⟨w.heap.size, 0, none⟩ = some (.slice o.aS o.nS o.cS) := cell_of_block HA9.out 0 (by simp [Otl.cells])
            have k1 : w9.cell? ⟨w.heap.size, 1, none⟩ = some (.int .i64 o.kl) := cell_of_block HA9.out 1 (by simp [Otl.cells])
            have k2 : w9.cell? ⟨w.heap.size, 2, none⟩ = some (.int .i64 o.kh) := cell_of_block HA9.out 2 (by simp [Otl.cells])
            have k3 : w9.cell? ⟨w.heap.size, 3, none⟩ = some (.slice o.aA o.nA o.cA) := cell_of_block HA9.out 3 (by simp [Otl.cells])
            have k4 : w9.cell? ⟨w.heap.size, 4, none⟩ = some (.slice o.aP o.nP o.cP) := cell_of_block HA9.out 4 (by simp [Otl.cells])
            have kk := (Array.getElem?_eq_some_iff.1 HA9.out).1
            clear u2 u3 l0 lz1
            go_wp2_with fail
            refine RL.out.mono ?_
            rintro e w2 ⟨b9, rfl, hCb, hb9, hbw⟩
            have s9 := HB9.out.size
            have l8 := (Array.getElem?_eq_some_iff.1 HA8.out).1
            have HCb := Lib.hid hCb; have HBW := Lib.hid hbw; clear hCb hbw
            go_wp2_with fail
            go_roundw
            case rel => exact ⟨t + 1, b9, a9, c9, ct0, rfl, rfl, by go_num, by omega, HCb, Lib.hid ((HR9.out.rekey hb9).kept (grownBy_of_below HBW.out none) (fun b hb => by cases hb)), Lib.hid ((HBW.out.block _ (Array.getElem?_eq_some_iff.1 HA9.out).1).trans HA9.out), Lib.hid ((HBW.out.block _ (Array.getElem?_eq_some_iff.1 HA8.out).1).trans HA8.out), Lib.hid (HB9.out.trans (HBW.out.mono s9))⟩
            case measure => simp only [intOf]; omega
      · have htq2 : t = m := by omega
        have HTM := Lib.hid htq2; clear htq2
        go_wp2_with fail
        refine bodyPost_ret (v := .tuple #[.slice a t c, .int .i64 (m : Int), .int .i64 0]) (by simp [results, Try.results39, go_sem, *]) rfl ?_
        have ht := HTM.out
        subst ht
        exact RunEnd.full (by omega) HRt.out.out HBt.out
end Go.Proofs.Ytdcpgjepgajioaa
