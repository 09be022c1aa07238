/- Contract of ground. No conditions beyond each theorem's own. -/
import Derived.Test.YtnmldophadanbaaNs
import Derived.Test.YtnmldophadanbaaKp
set_option linter.unusedVariables false
set_option linter.unusedSimpArgs false
set_option linter.unusedSectionVars false
set_option linter.constructorNameAsVariable false
namespace Go.Proofs.Ytnmldophadanbaa
open Go.RowKit

attribute [local go_sem] gw_cell gw_frozen gw_size
attribute [local go_sem ↓] run_minZ run_maxZ

/-- an ending of ground -/
def GEnd (c : Crv) (V A : Int) (D : Nat) (e : Ending) : Prop :=
  e = .returned (.tuple #[.int .i64 0, .bool false]) ∨ ∃ A', e = .returned (.tuple #[.int .i64 (A - A'), .bool true]) ∧ GRun c V A D A'
/-- between two millilitres -/
structure GRel (c : Crv) (V A : Int) (D : Nat) (W : World) (t s2 s1 : Value) (wr : World) : Prop where
  ex : ∃ (k : Nat) (A' : Int), k ≤ D ∧ t = .int .i64 k ∧ s2 = .int .i64 A' ∧ s1 = .int .i64 (V - k) ∧ GRun c V A k A' ∧ ∃ x, wr = gw W x

theorem rseg_max {L : Nat → Int} {n j : Nat} {A d : Int} (h : RSeg L n j (maxZ 0 (A - 1000000)) d) : RSeg L n j (max 0 (A - 1000000)) d := by rw [← maxZ_eq]; exact h

set_option maxRecDepth 100000 in
set_option maxHeartbeats 8000000 in
theorem ground_any (aL aV aY : Option Addr) (cL cV ny cY D : Nat) (c : Crv) (V A : Int) (Y : Nat → Int) (w : World) (g : Good c.n c.L c.A c.B) (hL : IntsAt w aL c.n c.L) (hV : SpansAt w aV c.n c.A c.B) (hY : NumsAt .u32 w aY ny Y) (hrY : ∀ i, i < ny → 0 ≤ Y i ∧ Y i ≤ 4294967295)
    (h0 : 0 < ny) (hny : ny ≤ 9223372036854775807) (hDV : (D : Int) ≤ V) (hV3 : V ≤ 3000) (hA : 0 ≤ A) (hAV : A ≤ 1000000 * V) :
    Calls Try.prog 23 #[.agg #[.slice aL c.n cL, .slice aV c.n cV], .int .i64 V, .int .i64 A, .int .i64 D, .slice aY ny cY] w fun e w' => GEnd c V A D e ∧ Below w.heap.size w w' := by
  obtain ⟨W1, hW1⟩ : ∃ W1, w.alloc (.cells #[.slice aL c.n cL, .slice aV c.n cV] 25) = W1 := ⟨_, rfl⟩
  have hB1 : Below w.heap.size w W1 := by rw [← hW1]; exact below_alloc _ _
  have f0 : W1.cell? ⟨w.heap.size, 0, none⟩ = some (.slice aL c.n cL) := by rw [← hW1]; simp
  have f1 : W1.cell? ⟨w.heap.size, 1, none⟩ = some (.slice aV c.n cV) := by rw [← hW1]; simp
  have z0 : w.heap.size < W1.heap.size := by rw [← hW1]; simp
  have HL := Lib.hid (hL.below hB1); clear hL
  have HV := Lib.hid (hV.below hB1); clear hV
  obtain ⟨yb, yo, rfl, _, _⟩ := nums_get hY h0
  have HYY := Lib.hid (hY.below hB1); clear hY
  have HRY := Lib.hid hrY; clear hrY
  have HW1 := Lib.hid hW1; clear hW1
  have HB := Lib.hid hB1; clear hB1
  have G := Lib.hid g; clear g
  have n2 : ¬ ((ny : Int) = 0) := by omega
  go_enter Try.func23, Try.ntmps23
  go_wp2_with fail
  rw [HW1.out]
  go_loopw [22, 2, 1] (fun t s2 s1 wr => GRel c V A D W1 t s2 s1 wr) (fun t _ _ _ => D - (intOf t).toNat)
  case atStart => exact ⟨⟨0, A, Nat.zero_le _, rfl, rfl, by simp, rfl, ⟨#[], W1.drawn⟩, by simp [gw]⟩⟩
  case round =>
    obtain ⟨⟨k, A', hk, rfl, rfl, rfl, hrun, x, rfl⟩⟩ := hrel
    have HRUN := Lib.hid hrun; clear hrun
    by_cases hlt : k < D
    · obtain ⟨i1, i2, _, _⟩ := grun_inv hA hAV k A' (by omega) HRUN.out
      obtain ⟨v, hv⟩ : ∃ v, V - (k : Int) = v := ⟨_, rfl⟩
      rw [hv] at i2 ⊢
      have v1 : 1 ≤ v := by omega
      have v2 : v ≤ 3000 := by omega
      have HVK := Lib.hid hv; clear hv
      obtain ⟨i, hs⟩ := rseg_ex c.L c.n A' (100 * v) G.out.two
      have rr := rnum_range (E := c.A) G.out hs i1 (by omega) (by omega) (fun i hi => by have := G.out.range i hi; omega)
      have dd := rden_pos G.out hs (by omega)
      have de := rden_le G.out hs (by omega)
      have LO := Lib.hid (fun y => rline_lo aL aV c.n cL cV i A' (100 * v) c.L c.A c.B (gw W1 y) G.out (HL.out.below (below_gw W1 y)) (HV.out.below (below_gw W1 y)) hs i1 (by omega) (by omega) (by omega))
      have HS := Lib.hid hs; clear hs
      obtain ⟨N, hN⟩ : ∃ N, rnum c.L c.A i A' (100 * v) = N := ⟨_, rfl⟩
      obtain ⟨E, hE⟩ : ∃ E, rden c.L i (100 * v) = E := ⟨_, rfl⟩
      rw [hN, hE] at rr
      rw [hE] at dd de
      rw [hN, hE] at LO
      have HN := Lib.hid hN; clear hN
      have HE := Lib.hid hE; clear hE
      obtain ⟨q, em, ml, HQ⟩ : ∃ q : Nat, ((k : Int) % (ny : Int)) = q ∧ q < ny ∧ Hid (k % ny = q) := ⟨k % ny, emod_nat k ny, Nat.mod_lt _ h0, Lib.hid rfl⟩
      have ym := HRY.out q ml
      obtain ⟨lby, dy⟩ := nums_cell HYY.out q ml
      have l0 : 0 ≤ (N * 100 + E - 1) / E := Int.ediv_nonneg (by omega) (by omega)
      have l1 : (N * 100 + E - 1) / E ≤ 1000000 := upI_le (a := N * 100) (b := E) (by omega) (by omega)
      obtain ⟨lw, hlw⟩ : ∃ lw, maxZ ((N * 100 + E - 1) / E) (A' - 1000000 * (v - 1)) = lw := ⟨_, rfl⟩
      have lwb : 0 ≤ lw ∧ lw ≤ 1000000 ∧ (N * 100 + E - 1) / E ≤ lw ∧ A' - 1000000 * (v - 1) ≤ lw := by rw [← hlw, maxZ_eq]; omega
      have lwN : N * 100 ≤ lw * E := Int.le_trans (le_upI (a := N * 100) (b := E) (by omega)) (Int.mul_le_mul_of_nonneg_right lwb.2.2.1 (by omega))
      have LWN := Lib.hid lwN; clear lwN
      have HLW := Lib.hid hlw; clear hlw
      have NX : ∀ (b : Int) (hg : Int), lw ≤ hg → hg ≤ A' → (1 < v → ∃ j, RSeg c.L c.n j (max 0 (A' - 1000000)) (100 * (v - 1)) ∧ hg * rden c.L j (100 * (v - 1)) ≤ rnum c.L c.B j (max 0 (A' - 1000000)) (100 * (v - 1)) * 100) → GRun c V A (k + 1) (A' - innerI lw hg b) := by
        intro b hg q1 q2 q3
        have ir := innerI_range (b := b) q1
        refine ⟨A', innerI lw hg b, HRUN.out, ?_, rfl⟩
        rw [HVK.out]
        refine gstep_of G.out v1 i1 i2 HS.out ?_ (by omega) (by omega) fun h1 => ?_
        · rw [HN.out, HE.out]
          exact Int.le_trans LWN.out (Int.mul_le_mul_of_nonneg_right ir.1 (by omega))
        · obtain ⟨j, r1, r2⟩ := q3 h1
          exact ⟨j, r1, Int.le_trans (Int.mul_le_mul_of_nonneg_right ir.2 (by have := rden_pos G.out r1 (by omega); omega)) r2⟩
      have HNX := Lib.hid NX; clear NX
      have em2 : ((k : Int) - 0) % (ny : Int) = q := by simpa using em
      clear em2
      by_cases hv1 : 1 < v
      · obtain ⟨m, hm⟩ : ∃ m, maxZ 0 (A' - 1000000) = m := ⟨_, rfl⟩
        have mb : 0 ≤ m ∧ m ≤ 1000000 * (v - 1) := by rw [← hm, maxZ_eq]; omega
        obtain ⟨j, hj⟩ := rseg_ex c.L c.n m (100 * (v - 1)) G.out.two
        have rr2 := rnum_range (E := c.B) G.out hj mb.1 (by omega) (by omega) (fun i hi => by have := G.out.range i hi; omega)
        have dd2 := rden_pos G.out hj (by omega)
        have de2 := rden_le G.out hj (by omega)
        have LH := Lib.hid (fun y => rline_hi aL aV c.n cL cV j m (100 * (v - 1)) c.L c.A c.B (gw W1 y) G.out (HL.out.below (below_gw W1 y)) (HV.out.below (below_gw W1 y)) hj mb.1 (by omega) (by omega) (by omega))
        obtain ⟨N2, hN2⟩ : ∃ N2, rnum c.L c.B j m (100 * (v - 1)) = N2 := ⟨_, rfl⟩
        obtain ⟨E2, hE2⟩ : ∃ E2, rden c.L j (100 * (v - 1)) = E2 := ⟨_, rfl⟩
        rw [hN2, hE2] at rr2 LH
        rw [hE2] at dd2 de2
        have g0 : 0 ≤ N2 * 100 / E2 := Int.ediv_nonneg (by omega) (by omega)
        have g1 : N2 * 100 / E2 * E2 ≤ N2 * 100 := Int.ediv_mul_le _ (by omega)
        have g2 : N2 * 100 / E2 ≤ 1000000 := mul_le_cancel (show 0 < E2 by omega) (by omega)
        obtain ⟨hg, hhg⟩ : ∃ hg, minZ (N2 * 100 / E2) A' = hg := ⟨_, rfl⟩
        have hgb : 0 ≤ hg ∧ hg ≤ 1000000 ∧ hg ≤ N2 * 100 / E2 ∧ hg ≤ A' := by rw [← hhg, minZ_eq]; omega
        have FIN := Lib.hid (show ∃ j, RSeg c.L c.n j (max 0 (A' - 1000000)) (100 * (v - 1)) ∧ hg * rden c.L j (100 * (v - 1)) ≤ rnum c.L c.B j (max 0 (A' - 1000000)) (100 * (v - 1)) * 100 by
          refine ⟨j, rseg_max (by rw [hm]; exact hj), ?_⟩
          rw [← maxZ_eq, hm, hN2, hE2]
          exact Int.le_trans (Int.mul_le_mul_of_nonneg_right hgb.2.2.1 (by omega)) g1)
        have HM := Lib.hid hm; clear hm
        have HHG := Lib.hid hhg; clear hhg
        clear hj hN2 hE2 g1
        go_wp2_with fail
        refine (Calls.gw_of (LO.out x)).mono ?_
        clear LO
        rintro e w1 ⟨rfl, y, rfl⟩
        go_upto_region 9 with (fail)
        go_wp2_with fail
        rw [HM.out]
        refine (Calls.gw_of (LH.out y)).mono ?_
        clear LH
        rintro e w1 ⟨rfl, y2, rfl⟩
        go_upto_if 69 with (fail)
        rw [HHG.out, HLW.out]
        by_cases hc : hg < lw
        · go_wp2_with fail
          go_ret2
          exact ⟨.inl rfl, HB.out.gw y2⟩
        · go_wp2_with fail
          refine (Calls.gw_of (inner_any lw hg (Y q) _ (by omega) (by omega) (by omega) ym.1 ym.2)).mono ?_
          rintro e w1 ⟨rfl, y3, rfl⟩
          have ir := innerI_range (b := Y q) (show lw ≤ hg by omega)
          go_wp2_with fail
          go_roundw
          case rel => exact ⟨⟨k + 1, _, by omega, by go_num, rfl, by rw [← HVK.out]; go_num, HNX.out (Y q) hg (by omega) hgb.2.2.2 (fun _ => FIN.out), y3, rfl⟩⟩
          case measure => simp [intOf]; omega
      · obtain ⟨hg, hhg⟩ : ∃ hg, minZ 1000000 A' = hg := ⟨_, rfl⟩
        have hgb : 0 ≤ hg ∧ hg ≤ 1000000 ∧ hg ≤ A' := by rw [← hhg, minZ_eq]; omega
        have HHG := Lib.hid hhg; clear hhg
        go_wp2_with fail
        refine (Calls.gw_of (LO.out x)).mono ?_
        clear LO
        rintro e w1 ⟨rfl, y, rfl⟩
        go_upto_if 69 with (fail)
        rw [HHG.out, HLW.out]
        by_cases hc : hg < lw
        · go_wp2_with fail
          go_ret2
          exact ⟨.inl rfl, HB.out.gw y⟩
        · go_wp2_with fail
          refine (Calls.gw_of (inner_any lw hg (Y q) _ (by omega) (by omega) (by omega) ym.1 ym.2)).mono ?_
          rintro e w1 ⟨rfl, y3, rfl⟩
          have ir := innerI_range (b := Y q) (show lw ≤ hg by omega)
          go_wp2_with fail
          go_roundw
          case rel => exact ⟨⟨k + 1, _, by omega, by go_num, rfl, by rw [← HVK.out]; go_num, HNX.out (Y q) hg (by omega) hgb.2.2 (fun h => absurd h (by omega)), y3, rfl⟩⟩
          case measure => simp [intOf]; omega
    · obtain rfl : D = k := by omega
      obtain ⟨i1, i2, _, _⟩ := grun_inv hA hAV D A' (by omega) HRUN.out
      go_wp2_with fail
      go_ret2
      exact ⟨.inr ⟨A', rfl, HRUN.out⟩, HB.out.gw x⟩
end Go.Proofs.Ytnmldophadanbaa
