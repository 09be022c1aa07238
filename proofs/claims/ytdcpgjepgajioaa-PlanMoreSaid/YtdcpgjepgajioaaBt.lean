/- Contracts of Cheapest and of Fewest. No conditions beyond each theorem's own. -/
import Derived.Test.YtdcpgjepgajioaaBs
set_option linter.unusedVariables false
set_option linter.unusedSimpArgs false
set_option linter.unusedSectionVars false
set_option linter.constructorNameAsVariable false
namespace Go.Proofs.Ytdcpgjepgajioaa
open Go.RowKit Go.Shelf

attribute [local go_sem] gw_cell gw_frozen gw_size

theorem price_any (y : Lyg) (b t : Nat) (W : World) (hz : W.cell? ⟨b, 0, none⟩ = some (.slice y.aR y.nR y.cR)) (hY : IntsAt W y.aR y.nR y.R) (ht : t < y.nR) :
    Calls Try.prog 43 #[.int .i64 (t : Int), .pointer (some ⟨b, 0, none⟩)] W fun e w' => e = .returned (.int .i64 (y.R t)) ∧ W = w' := by
  rcases hY with h0 | ⟨bR, oR, eR, lR, hR⟩
  · omega
  have c0 := hR t ht
  rw [eR] at hz
  have lz : b < W.heap.size := World.block_lt_of_cell? W _ hz
  have hti : (t : Int) < (y.nR : Int) := by omega
  clear hR eR
  go_enter Try.func43, Try.ntmps43
  go_wp2_with fail
  go_ret
  exact ⟨rfl, rfl⟩
theorem one_any (t : Int) (W : World) : Calls Try.prog 45 #[.int .i64 t] W fun e w' => e = .returned (.int .i64 1) ∧ W = w' := by
  go_enter Try.func45, Try.ntmps45
  go_wp2_with fail
  go_ret
  exact ⟨rfl, rfl⟩
/-- Cheapest, Fewest: the error, the lots, the sum -/
def chE (o : Otl) (y : Lyg) (wt : Nat → Int) : Int := if outB o = true ∧ layB o y = true then (if (findF o y wt).isSome = true then 0 else 4) else 1
def chL (o : Otl) (y : Lyg) (wt : Nat → Int) : List Nat := if chE o y wt = 0 then stL (findF o y wt) else []
def chS (o : Otl) (y : Lyg) (wt : Nat → Int) : Int := if chE o y wt = 0 then stS (findF o y wt) else 0
theorem ch_arg {o : Otl} {y : Lyg} {wt : Nat → Int} (h : ¬ (outB o = true ∧ layB o y = true)) : chE o y wt = 1 ∧ chL o y wt = [] ∧ chS o y wt = 0 := by
  have e : chE o y wt = 1 := if_neg h
  exact ⟨e, by unfold chL; rw [e]; rfl, by unfold chS; rw [e]; rfl⟩
theorem ch_none {o : Otl} {y : Lyg} {wt : Nat → Int} (h : outB o = true ∧ layB o y = true) (hf : findF o y wt = none) : chE o y wt = 4 ∧ chL o y wt = [] ∧ chS o y wt = 0 := by
  have e : chE o y wt = 4 := by unfold chE; rw [if_pos h, hf]; rfl
  exact ⟨e, by unfold chL; rw [e]; rfl, by unfold chS; rw [e]; rfl⟩
theorem ch_some {o : Otl} {y : Lyg} {wt : Nat → Int} {x : List Nat × Int} (h : outB o = true ∧ layB o y = true) (hf : findF o y wt = some x) : chE o y wt = 0 ∧ chL o y wt = x.1 ∧ chS o y wt = x.2 := by
  have e : chE o y wt = 0 := by unfold chE; rw [if_pos h, hf]; rfl
  exact ⟨e, by unfold chL; rw [e, hf]; rfl, by unfold chS; rw [e, hf]; rfl⟩

set_option maxRecDepth 100000 in
set_option maxHeartbeats 4000000 in
theorem Cheapest_any (o : Otl) (y : Lyg) (w : World) (hO : o.In w) (hfo : o.Fits) (hY : y.In w) (hfy : y.Fits) :
    Calls Try.prog 17 #[o.val, y.val] w fun e w' => ∃ a c, e = .returned (.tuple #[.slice a (chL o y y.R).length c, .int .i64 (chS o y y.R), .int .i64 (chE o y y.R)]) ∧ BestAt w.heap.size none w' a (chL o y y.R) ∧ Below w.heap.size w w' := by
  have hmf : ∀ (fn : Fn) (first cap : Array Value) (w : World), (Instr.makeFunc fn first cap).run Try.prog w = .ok (.func fn first cap) w := fun _ _ _ _ => rfl
  unfold Otl.val Lyg.val
  obtain ⟨W1, hW1⟩ : ∃ W1, (w.alloc (.cells #[.slice o.aS o.nS o.cS, .int .i64 o.kl, .int .i64 o.kh, .slice o.aA o.nA o.cA, .slice o.aP o.nP o.cP] 27)).alloc (.cells #[.slice y.aR y.nR y.cR, .slice y.aM y.nM y.cM, .int .i64 y.lot, .int .i64 y.room] 29) = W1 := ⟨_, rfl⟩
  have hBc : Below w.heap.size w W1 := by rw [← hW1]; exact (below_alloc _ _).alloc (by simp) _
  have zc0 : W1.heap[w.heap.size]? = some (.cells #[.slice o.aS o.nS o.cS, .int .i64 o.kl, .int .i64 o.kh, .slice o.aA o.nA o.cA, .slice o.aP o.nP o.cP] 27 (0, 0)) := by rw [← hW1]; exact alloc_keep (alloc_at rfl)
  have zc1 : W1.heap[w.heap.size + 1]? = some (.cells #[.slice y.aR y.nR y.cR, .slice y.aM y.nM y.cM, .int .i64 y.lot, .int .i64 y.room] 29 (0, 0)) := by rw [← hW1]; exact alloc_at (by simp)
  have c00 : W1.cell? ⟨w.heap.size, 0, none⟩ = some (.slice o.aS o.nS o.cS) := cell_of_block zc0 0 (by simp)
  have c01 : W1.cell? ⟨w.heap.size, 1, none⟩ = some (.int .i64 o.kl) := cell_of_block zc0 1 (by simp)
  have c02 : W1.cell? ⟨w.heap.size, 2, none⟩ = some (.int .i64 o.kh) := cell_of_block zc0 2 (by simp)
  have c03 : W1.cell? ⟨w.heap.size, 3, none⟩ = some (.slice o.aA o.nA o.cA) := cell_of_block zc0 3 (by simp)
  have c04 : W1.cell? ⟨w.heap.size, 4, none⟩ = some (.slice o.aP o.nP o.cP) := cell_of_block zc0 4 (by simp)
  have c10 : W1.cell? ⟨w.heap.size + 1, 0, none⟩ = some (.slice y.aR y.nR y.cR) := cell_of_block zc1 0 (by simp)
  have c11 : W1.cell? ⟨w.heap.size + 1, 1, none⟩ = some (.slice y.aM y.nM y.cM) := cell_of_block zc1 1 (by simp)
  have c12 : W1.cell? ⟨w.heap.size + 1, 2, none⟩ = some (.int .i64 y.lot) := cell_of_block zc1 2 (by simp)
  have c13 : W1.cell? ⟨w.heap.size + 1, 3, none⟩ = some (.int .i64 y.room) := cell_of_block zc1 3 (by simp)
  have lc0 := (Array.getElem?_eq_some_iff.1 zc0).1
  have lc1 := (Array.getElem?_eq_some_iff.1 zc1).1
  have Zc1 := Lib.hid zc1
  clear zc0 zc1
  have HBc := Lib.hid hBc; clear hBc
  have HWc := Lib.hid hW1; clear hW1
  have HO := Lib.hid (hO.below HBc.out)
  have HY := Lib.hid (hY.below HBc.out)
  have OL' := Lib.hid (fun W (hb : Below W1.heap.size W1 W) => isOutlook_any o W (HO.out.below hb) hfo)
  have HF := Lib.hid hfo
  have HFY := Lib.hid hfy
  clear hO hY hfo hfy
  unfold Otl.val at OL'
  cases e1 : outB o
  · have E1 := Lib.hid e1; clear e1
    rw [E1.out] at OL'
    go_enter Try.func17, Try.ntmps17
    go_upto_region 1 with (fail)
    rw [HWc.out]
    go_wp2_with fail
    refine (Calls.grown (OL'.out W1 (Below.refl _ _))).mono ?_
    rintro e w1 ⟨rfl, z1, rfl⟩
    go_wp2_with fail
    obtain ⟨q1, q2, q3⟩ := ch_arg (o := o) (y := y) (wt := y.R) (by rw [E1.out]; simp)
    rw [q1, q2, q3]
    refine bodyPost_ret (v := .tuple #[.slice none 0 0, .int .i64 0, .int .i64 1]) (by simp [results, Try.results17, go_sem, *]) rfl ⟨none, 0, rfl, .inl rfl, ?_⟩
    exact HBc.out.gw z1
  have E1 := Lib.hid e1; clear e1
  rw [E1.out] at OL'
  have LY' := Lib.hid (fun W (hb : Below W1.heap.size W1 W) => isLaying_any o y W (HO.out.below hb) (by have := outB_t E1.out; omega) (HF.out.pN 0 (by have := outB_t E1.out; omega)) (HY.out.below hb) HFY.out)
  unfold Otl.val Lyg.val at LY'
  cases e2 : layB o y
  · have E2 := Lib.hid e2; clear e2
    rw [E2.out] at LY'
    go_enter Try.func17, Try.ntmps17
    go_upto_region 1 with (fail)
    rw [HWc.out]
    go_wp2_with fail
    refine (Calls.grown (OL'.out W1 (Below.refl _ _))).mono ?_
    rintro e w1 ⟨rfl, z1, rfl⟩
    go_wp2_with fail
    refine (Calls.gw_of (LY'.out _ (below_gw W1 z1))).mono ?_
    rintro e w1 ⟨rfl, z2, rfl⟩
    go_wp2_with fail
    obtain ⟨q1, q2, q3⟩ := ch_arg (o := o) (y := y) (wt := y.R) (by rw [E2.out]; simp)
    rw [q1, q2, q3]
    refine bodyPost_ret (v := .tuple #[.slice none 0 0, .int .i64 0, .int .i64 1]) (by simp [results, Try.results17, go_sem, *]) rfl ⟨none, 0, rfl, .inl rfl, ?_⟩
    exact HBc.out.gw z2
  have E2 := Lib.hid e2; clear e2
  rw [E2.out] at LY'
  have LB := layB_t E2.out
  have SE := Lib.hid (fun z => search_any o y 43 #[.pointer (some ⟨w.heap.size + 1, 0, none⟩)] y.R (gw W1 z) (enters_of Try.func43 (by kernel_rfl) rfl) (HO.out.below (below_gw W1 z)) (HY.out.below (below_gw W1 z)) E1.out E2.out (fun W t hb ht => price_any y (w.heap.size + 1) t W (cell_of_block ((thru hb (below_gw W1 z)).block _ lc1 |>.trans Zc1.out) 0 (by simp)) ((HY.out.below (thru hb (below_gw W1 z))).iR) (by have := LB.1; have := LB.2.1; omega)) (fun t ht => LB.2.2.1 t (by have := LB.1; have := LB.2.1; omega)))
  unfold Otl.val Lyg.val at SE
  have AND := Lib.hid (show outB o = true ∧ layB o y = true from ⟨E1.out, E2.out⟩)
  clear LB
  cases hf : findF o y y.R with
  | none =>
    rw [hf] at SE
    have HFN := Lib.hid hf; clear hf
    go_enter Try.func17, Try.ntmps17
    go_upto_region 1 with (fail)
    rw [HWc.out]
    go_wp2_with fail
    refine (Calls.grown (OL'.out W1 (Below.refl _ _))).mono ?_
    rintro e w1 ⟨rfl, z1, rfl⟩
    go_wp2_with fail
    refine (Calls.gw_of (LY'.out _ (below_gw W1 z1))).mono ?_
    rintro e w1 ⟨rfl, z2, rfl⟩
    go_wp2_with fail
    refine (SE.out z2).mono ?_
    rintro e w2 ⟨a, c, rfl, hb1, hb2⟩
    have HB2 := Lib.hid (thru hb2 (below_gw W1 z2))
    clear hb1 hb2
    go_wp2_with fail
    obtain ⟨q1, q2, q3⟩ := ch_none AND.out HFN.out
    rw [q1, q2, q3]
    refine bodyPost_ret (v := .tuple #[.slice none 0 0, .int .i64 0, .int .i64 4]) (by simp [results, Try.results17, go_sem, *]) rfl ⟨none, 0, rfl, .inl rfl, ?_⟩
    exact HBc.out.trans (HB2.out.mono HBc.out.size)
  | some x =>
    rw [hf] at SE
    have HFN := Lib.hid hf; clear hf
    go_enter Try.func17, Try.ntmps17
    go_upto_region 1 with (fail)
    rw [HWc.out]
    go_wp2_with fail
    refine (Calls.grown (OL'.out W1 (Below.refl _ _))).mono ?_
    rintro e w1 ⟨rfl, z1, rfl⟩
    go_wp2_with fail
    refine (Calls.gw_of (LY'.out _ (below_gw W1 z1))).mono ?_
    rintro e w1 ⟨rfl, z2, rfl⟩
    go_wp2_with fail
    refine (SE.out z2).mono ?_
    rintro e w2 ⟨a, c, rfl, hb1, hb2⟩
    have HB2 := Lib.hid (thru hb2 (below_gw W1 z2))
    have BB := Lib.hid hb1
    clear hb1 hb2
    go_wp2_with fail
    obtain ⟨q1, q2, q3⟩ := ch_some AND.out HFN.out
    rw [q1, q2, q3]
    refine bodyPost_ret (v := .tuple #[.slice a x.1.length c, .int .i64 x.2, .int .i64 0]) (by simp [results, Try.results17, go_sem, stL, stS]) rfl ⟨a, c, rfl, ?_, ?_⟩
    · rcases BB.out with h | ⟨b, h1, h2, h3, h4, h5⟩
      · exact .inl h
      · exact .inr ⟨b, h1, by have := HBc.out.size; rw [gw_size] at h2; omega, h3, h4, h5⟩
    · exact HBc.out.trans (HB2.out.mono HBc.out.size)

set_option maxRecDepth 100000 in
set_option maxHeartbeats 4000000 in
theorem Fewest_any (o : Otl) (y : Lyg) (w : World) (hO : o.In w) (hfo : o.Fits) (hY : y.In w) (hfy : y.Fits) :
    Calls Try.prog 19 #[o.val, y.val] w fun e w' => ∃ a c, e = .returned (.tuple #[.slice a (chL o y (fun _ => 1)).length c, .int .i64 (chE o y (fun _ => 1))]) ∧ BestAt w.heap.size none w' a (chL o y (fun _ => 1)) ∧ Below w.heap.size w w' := by
  have hmf : ∀ (fn : Fn) (first cap : Array Value) (w : World), (Instr.makeFunc fn first cap).run Try.prog w = .ok (.func fn first cap) w := fun _ _ _ _ => rfl
  unfold Otl.val Lyg.val
  obtain ⟨W1, hW1⟩ : ∃ W1, (w.alloc (.cells #[.slice o.aS o.nS o.cS, .int .i64 o.kl, .int .i64 o.kh, .slice o.aA o.nA o.cA, .slice o.aP o.nP o.cP] 27)).alloc (.cells #[.slice y.aR y.nR y.cR, .slice y.aM y.nM y.cM, .int .i64 y.lot, .int .i64 y.room] 29) = W1 := ⟨_, rfl⟩
  have hBc : Below w.heap.size w W1 := by rw [← hW1]; exact (below_alloc _ _).alloc (by simp) _
  have zc0 : W1.heap[w.heap.size]? = some (.cells #[.slice o.aS o.nS o.cS, .int .i64 o.kl, .int .i64 o.kh, .slice o.aA o.nA o.cA, .slice o.aP o.nP o.cP] 27 (0, 0)) := by rw [← hW1]; exact alloc_keep (alloc_at rfl)
  have zc1 : W1.heap[w.heap.size + 1]? = some (.cells #[.slice y.aR y.nR y.cR, .slice y.aM y.nM y.cM, .int .i64 y.lot, .int .i64 y.room] 29 (0, 0)) := by rw [← hW1]; exact alloc_at (by simp)
  have c00 : W1.cell? ⟨w.heap.size, 0, none⟩ = some (.slice o.aS o.nS o.cS) := cell_of_block zc0 0 (by simp)
  have c01 : W1.cell? ⟨w.heap.size, 1, none⟩ = some (.int .i64 o.kl) := cell_of_block zc0 1 (by simp)
  have c02 : W1.cell? ⟨w.heap.size, 2, none⟩ = some (.int .i64 o.kh) := cell_of_block zc0 2 (by simp)
  have c03 : W1.cell? ⟨w.heap.size, 3, none⟩ = some (.slice o.aA o.nA o.cA) := cell_of_block zc0 3 (by simp)
  have c04 : W1.cell? ⟨w.heap.size, 4, none⟩ = some (.slice o.aP o.nP o.cP) := cell_of_block zc0 4 (by simp)
  have c10 : W1.cell? ⟨w.heap.size + 1, 0, none⟩ = some (.slice y.aR y.nR y.cR) := cell_of_block zc1 0 (by simp)
  have c11 : W1.cell? ⟨w.heap.size + 1, 1, none⟩ = some (.slice y.aM y.nM y.cM) := cell_of_block zc1 1 (by simp)
  have c12 : W1.cell? ⟨w.heap.size + 1, 2, none⟩ = some (.int .i64 y.lot) := cell_of_block zc1 2 (by simp)
  have c13 : W1.cell? ⟨w.heap.size + 1, 3, none⟩ = some (.int .i64 y.room) := cell_of_block zc1 3 (by simp)
  have lc0 := (Array.getElem?_eq_some_iff.1 zc0).1
  have lc1 := (Array.getElem?_eq_some_iff.1 zc1).1
  have Zc1 := Lib.hid zc1
  clear zc0 zc1
  have HBc := Lib.hid hBc; clear hBc
  have HWc := Lib.hid hW1; clear hW1
  have HO := Lib.hid (hO.below HBc.out)
  have HY := Lib.hid (hY.below HBc.out)
  have OL' := Lib.hid (fun W (hb : Below W1.heap.size W1 W) => isOutlook_any o W (HO.out.below hb) hfo)
  have HF := Lib.hid hfo
  have HFY := Lib.hid hfy
  clear hO hY hfo hfy
  unfold Otl.val at OL'
  cases e1 : outB o
  · have E1 := Lib.hid e1; clear e1
    rw [E1.out] at OL'
    go_enter Try.func19, Try.ntmps19
    go_upto_region 1 with (fail)
    rw [HWc.out]
    go_wp2_with fail
    refine (Calls.grown (OL'.out W1 (Below.refl _ _))).mono ?_
    rintro e w1 ⟨rfl, z1, rfl⟩
    go_wp2_with fail
    obtain ⟨q1, q2, q3⟩ := ch_arg (o := o) (y := y) (wt := (fun _ => 1)) (by rw [E1.out]; simp)
    rw [q1, q2]
    refine bodyPost_ret (v := .tuple #[.slice none 0 0, .int .i64 1]) (by simp [results, Try.results19, go_sem, *]) rfl ⟨none, 0, rfl, .inl rfl, ?_⟩
    exact HBc.out.gw z1
  have E1 := Lib.hid e1; clear e1
  rw [E1.out] at OL'
  have LY' := Lib.hid (fun W (hb : Below W1.heap.size W1 W) => isLaying_any o y W (HO.out.below hb) (by have := outB_t E1.out; omega) (HF.out.pN 0 (by have := outB_t E1.out; omega)) (HY.out.below hb) HFY.out)
  unfold Otl.val Lyg.val at LY'
  cases e2 : layB o y
  · have E2 := Lib.hid e2; clear e2
    rw [E2.out] at LY'
    go_enter Try.func19, Try.ntmps19
    go_upto_region 1 with (fail)
    rw [HWc.out]
    go_wp2_with fail
    refine (Calls.grown (OL'.out W1 (Below.refl _ _))).mono ?_
    rintro e w1 ⟨rfl, z1, rfl⟩
    go_wp2_with fail
    refine (Calls.gw_of (LY'.out _ (below_gw W1 z1))).mono ?_
    rintro e w1 ⟨rfl, z2, rfl⟩
    go_wp2_with fail
    obtain ⟨q1, q2, q3⟩ := ch_arg (o := o) (y := y) (wt := (fun _ => 1)) (by rw [E2.out]; simp)
    rw [q1, q2]
    refine bodyPost_ret (v := .tuple #[.slice none 0 0, .int .i64 1]) (by simp [results, Try.results19, go_sem, *]) rfl ⟨none, 0, rfl, .inl rfl, ?_⟩
    exact HBc.out.gw z2
  have E2 := Lib.hid e2; clear e2
  rw [E2.out] at LY'
  have LB := layB_t E2.out
  have SE := Lib.hid (fun z => search_any o y 45 #[] (fun _ => 1) (gw W1 z) (enters_of Try.func45 (by kernel_rfl) rfl) (HO.out.below (below_gw W1 z)) (HY.out.below (below_gw W1 z)) E1.out E2.out (fun W t _ _ => one_any t W) (fun t ht => by constructor <;> decide))
  unfold Otl.val Lyg.val at SE
  have AND := Lib.hid (show outB o = true ∧ layB o y = true from ⟨E1.out, E2.out⟩)
  clear LB
  cases hf : findF o y (fun _ => 1) with
  | none =>
    rw [hf] at SE
    have HFN := Lib.hid hf; clear hf
    go_enter Try.func19, Try.ntmps19
    go_upto_region 1 with (fail)
    rw [HWc.out]
    go_wp2_with fail
    refine (Calls.grown (OL'.out W1 (Below.refl _ _))).mono ?_
    rintro e w1 ⟨rfl, z1, rfl⟩
    go_wp2_with fail
    refine (Calls.gw_of (LY'.out _ (below_gw W1 z1))).mono ?_
    rintro e w1 ⟨rfl, z2, rfl⟩
    go_wp2_with fail
    refine (SE.out z2).mono ?_
    rintro e w2 ⟨a, c, rfl, hb1, hb2⟩
    have HB2 := Lib.hid (thru hb2 (below_gw W1 z2))
    clear hb1 hb2
    go_wp2_with fail
    obtain ⟨q1, q2, q3⟩ := ch_none AND.out HFN.out
    rw [q1, q2]
    refine bodyPost_ret (v := .tuple #[.slice none 0 0, .int .i64 4]) (by simp [results, Try.results19, go_sem, *]) rfl ⟨none, 0, rfl, .inl rfl, ?_⟩
    exact HBc.out.trans (HB2.out.mono HBc.out.size)
  | some x =>
    rw [hf] at SE
    have HFN := Lib.hid hf; clear hf
    go_enter Try.func19, Try.ntmps19
    go_upto_region 1 with (fail)
    rw [HWc.out]
    go_wp2_with fail
    refine (Calls.grown (OL'.out W1 (Below.refl _ _))).mono ?_
    rintro e w1 ⟨rfl, z1, rfl⟩
    go_wp2_with fail
    refine (Calls.gw_of (LY'.out _ (below_gw W1 z1))).mono ?_
    rintro e w1 ⟨rfl, z2, rfl⟩
    go_wp2_with fail
    refine (SE.out z2).mono ?_
    rintro e w2 ⟨a, c, rfl, hb1, hb2⟩
    have HB2 := Lib.hid (thru hb2 (below_gw W1 z2))
    have BB := Lib.hid hb1
    clear hb1 hb2
    go_wp2_with fail
    obtain ⟨q1, q2, q3⟩ := ch_some AND.out HFN.out
    rw [q1, q2]
    refine bodyPost_ret (v := .tuple #[.slice a x.1.length c, .int .i64 0]) (by simp [results, Try.results19, go_sem, stL, stS]) rfl ⟨a, c, rfl, ?_, ?_⟩
    · rcases BB.out with h | ⟨b, h1, h2, h3, h4, h5⟩
      · exact .inl h
      · exact .inr ⟨b, h1, by have := HBc.out.size; rw [gw_size] at h2; omega, h3, h4, h5⟩
    · exact HBc.out.trans (HB2.out.mono HBc.out.size)
end Go.Proofs.Ytdcpgjepgajioaa
