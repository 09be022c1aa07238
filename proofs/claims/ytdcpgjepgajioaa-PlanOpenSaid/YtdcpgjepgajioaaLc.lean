/- Contract of PlanBest: true. No conditions beyond each theorem's own. -/
import Derived.Test.YtdcpgjepgajioaaCe
import Derived.Test.YtdcpgjepgajioaaCh
import Derived.Test.YtdcpgjepgajioaaBy
set_option linter.unusedVariables false
set_option linter.unusedSimpArgs false
set_option linter.unusedSectionVars false
set_option linter.constructorNameAsVariable false
namespace Go.Proofs.Ytdcpgjepgajioaa
open Go.RowKit

attribute [local go_sem] gw_cell gw_frozen gw_size

theorem find_ok {o : Otl} {y : Lyg} {wt : Nat → Int} {x : List Nat × Int} (hB : outB o = true) (hLB : layB o y = true) (hw : ∀ t, t < y.nM → 0 ≤ wt t) (h : findF o y wt = some x) : x.1.length = y.nM ∧ (∀ t, t < y.nM → lotF x.1 t ≤ y.M t) ∧ keepB o y x.1 = true ∧ x.2 = costW wt x.1 ∧ x.1 ∈ planL y.M y.nM [] := by
  rw [find_best hB hLB hw] at h
  obtain ⟨h1, h2, _, _⟩ := (bestF_spec (ok := keepB o y) (cost := costW wt) (planL y.M y.nM []) none (fun x h => by cases h)).1 x h
  rcases h2 with h2 | ⟨h2, h3⟩
  · cases h2
  · obtain ⟨r, e, h4, h5⟩ := mem_plan y.nM h2
    exact ⟨by rw [e]; simpa using h4, fun t ht => h5 t (Nat.zero_le _) (by simpa using ht), h3, h1, h2⟩
theorem chL_len {o : Otl} {y : Lyg} {wt : Nat → Int} (hw : layB o y = true → ∀ t, t < y.nM → 0 ≤ wt t) : (chL o y wt).length ≤ 10 := by
  by_cases h : outB o = true ∧ layB o y = true
  · cases hf : findF o y wt with
    | none => rw [(ch_none h hf).2.1]; exact Nat.zero_le _
    | some x =>
      rw [(ch_some h hf).2.1, (find_ok h.1 h.2 (hw h.2) hf).1]
      have a := (outB_t h.1).2.2.2.2.2.2.2.2
      have := (a.2 0 (by omega)).2.1
      have := (layB_t h.2).2.1
      omega
  · rw [(ch_arg h).2.1]; exact Nat.zero_le _
theorem rints_b {b : Bool} (aA aB : Option Addr) (n m cA cB : Nat) (A B : Nat → Int) (w : World) (hA : IntsAt w aA n A) (hB : IntsAt w aB m B) (hn : n ≤ 9223372036854775807) (hm : m ≤ 9223372036854775807) (h : intsB n m A B = b) :
    Calls Try.prog 21 #[.slice aA n cA, .slice aB m cB] w fun e w' => e = .returned (.bool b) ∧ Below w.heap.size w w' := h ▸ rints_any aA aB n m cA cB A B w hA hB hn hm
theorem intsB_self' (n : Nat) (A : Nat → Int) : intsB n n A A = true := by unfold intsB; simp [allB]

set_option maxRecDepth 100000 in
set_option maxHeartbeats 4000000 in
theorem planBest_law (o : Otl) (y : Lyg) (w : World) (hO : o.In w) (hfo : o.Fits) (hY : y.In w) (hfy : y.Fits) :
    Calls Try.prog 4 #[o.val, y.val] w fun e w' => e = .returned (.bool true) ∧ Below w.heap.size w w' := by
  unfold Otl.val Lyg.val
  obtain ⟨W1, hW1⟩ : ∃ W1, (w.alloc (.cells #[.slice o.aS o.nS o.cS, .int .i64 o.kl, .int .i64 o.kh, .slice o.aA o.nA o.cA, .slice o.aP o.nP o.cP] 27)).alloc (.cells #[.slice y.aR y.nR y.cR, .slice y.aM y.nM y.cM, .int .i64 y.lot, .int .i64 y.room] 29) = W1 := ⟨_, rfl⟩
  have hBc : Below w.heap.size w W1 := by rw [← hW1]; exact (below_alloc _ _).alloc (by simp) _
  have zc0 : W1.heap[w.heap.size]? = some (.cells #[.slice o.aS o.nS o.cS, .int .i64 o.kl, .int .i64 o.kh, .slice o.aA o.nA o.cA, .slice o.aP o.nP o.cP] 27 (0, 0)) := by rw [← hW1]; exact alloc_keep (alloc_at rfl)
  have zc1 : W1.heap[w.heap.size + 1]? = some (.cells #[.slice y.aR y.nR y.cR, .slice y.aM y.nM y.cM, .int .i64 y.lot, .int .i64 y.room] 29 (0, 0)) := by rw [← hW1]; exact alloc_at (by simp)
  have c00 : W1.cell? ⟨w.heap.size, 0, none⟩ = some (.slice o.aS o.nS o.cS) := cell_of_block zc0 0 (by simp)
  have c01 : W1.cell? ⟨w.heap.size, 1, none⟩ = some (.int .i64 o.kl) := cell_of_block zc0 1 (by simp)
  have c02 : W1.cell? ⟨w.heap.size, 2, none⟩ = some (.int .i64 o.kh) := cell_of_block zc0 2 (by simp)
  have c03 : W1.cell? ⟨w.heap.size, 3, none⟩ = some (.slice o.aA o.nA o.cA) := cell_of_block zc0 3 (by simp)
  have c04 : W1.cell? ⟨w.heap.size, 4, none⟩ = some (.slice o.aP o.nP o.cP) := cell_of_block zc0 4 (by simp)
  have c10 : W1.cell? ⟨w.heap.size + 1, 0, none⟩ = some (.slice y.aR y.nR y.cR) := cell_of_block zc1 0 (by simp)
  have c11 : W1.cell? ⟨w.heap.size + 1, 1, none⟩ = some (.slice y.aM y.nM y.cM) := cell_of_block zc1 1 (by simp)
  have c12 : W1.cell? ⟨w.heap.size + 1, 2, none⟩ = some (.int .i64 y.lot) := cell_of_block zc1 2 (by simp)
  have c13 : W1.cell? ⟨w.heap.size + 1, 3, none⟩ = some (.int .i64 y.room) := cell_of_block zc1 3 (by simp)
  have lc0 := (Array.getElem?_eq_some_iff.1 zc0).1
  have lc1 := (Array.getElem?_eq_some_iff.1 zc1).1
  clear zc0 zc1
  have HBc := Lib.hid hBc; clear hBc
  have HWc := Lib.hid hW1; clear hW1
  have GR := great_any o y none 0 0 W1 (hO.below HBc.out) hfo hfy (by decide)
  have SL := fun z => slow_any y 300 (gw W1 z) (hY.below (thru (below_gw W1 z) HBc.out)) hfy.nM (by decide) (by decide)
  have CH := fun W (hb : Below W1.heap.size W1 W) => Cheapest_any o y W (hO.below (thru hb HBc.out)) hfo (hY.below (thru hb HBc.out)) hfy
  have RC := fun W (hb : Below W1.heap.size W1 W) => rCheapest_any o y W (hO.below (thru hb HBc.out)) hfo (hY.below (thru hb HBc.out)) hfy
  have FW := fun W (hb : Below W1.heap.size W1 W) => Fewest_any o y W (hO.below (thru hb HBc.out)) hfo (hY.below (thru hb HBc.out)) hfy
  have RF := fun W (hb : Below W1.heap.size W1 W) => rFewest_any o y W (hO.below (thru hb HBc.out)) hfo (hY.below (thru hb HBc.out)) hfy
  have b1 := chL_len (o := o) (y := y) (wt := y.R) (fun hl t ht => ((layB_t hl).2.2.1 t (by have a := layB_t hl; have := a.1; have := a.2.1; omega)).1)
  have b2 := chL_len (o := o) (y := y) (wt := fun _ => 1) (fun _ t _ => by decide)
  obtain ⟨l1, hl1⟩ : ∃ l, chL o y y.R = l := ⟨_, rfl⟩
  obtain ⟨s1, hs1⟩ : ∃ s, chS o y y.R = s := ⟨_, rfl⟩
  obtain ⟨e1, he1⟩ : ∃ e, chE o y y.R = e := ⟨_, rfl⟩
  obtain ⟨l2, hl2⟩ : ∃ l, chL o y (fun _ => 1) = l := ⟨_, rfl⟩
  obtain ⟨e2, he2⟩ : ∃ e, chE o y (fun _ => 1) = e := ⟨_, rfl⟩
  simp only [hl1, hs1, he1] at CH RC
  simp only [hl2, he2] at FW RF
  rw [hl1] at b1
  rw [hl2] at b2
  obtain ⟨sb, hsb⟩ : ∃ sb : Bool, decide ((300 : Int) < slowN y.M 300 y.nM) = sb := ⟨_, rfl⟩
  simp only [hsb] at SL
  obtain ⟨n1, hn1⟩ : ∃ n1, l1.length = n1 := ⟨_, rfl⟩
  obtain ⟨n2, hn2⟩ : ∃ n2, l2.length = n2 := ⟨_, rfl⟩
  have HN1 := Lib.hid hn1; have HN2 := Lib.hid hn2
  simp only [hn1] at CH RC b1
  simp only [hn2] at FW RF b2
  unfold Otl.val Lyg.val at GR CH RC FW RF
  unfold Lyg.val at SL
  have GR := Lib.hid GR
  have SL := Lib.hid SL
  have CH := Lib.hid CH
  have RC := Lib.hid RC
  have FW := Lib.hid FW
  have RF := Lib.hid RF
  clear hl1 hs1 he1 hl2 he2 hsb hn1 hn2 hO hY hfo hfy
  go_enter Try.func4, Try.ntmps4
  go_upto_region 1 with (fail)
  rw [HWc.out]
  go_wp2_with fail
  refine GR.out.mono ?_
  rintro e w1 ⟨g, rfl, hg, hb⟩
  obtain ⟨z1, rfl⟩ := gw_of_below hb
  clear hb hg
  cases g
  rotate_left
  · go_wp2_with fail
    refine (Calls.gw_of (awake_any (gw W1 z1))).mono ?_
    rintro e w9 ⟨rfl, z9, rfl⟩
    go_wp2_with fail
    go_ret
    exact ⟨rfl, HBc.out.gw z9⟩
  go_wp2_with fail
  refine (Calls.gw_of (SL.out z1)).mono ?_
  rintro e w1 ⟨rfl, z2, rfl⟩
  cases sb
  rotate_left
  · go_wp2_with fail
    refine (Calls.gw_of (awake_any (gw W1 z2))).mono ?_
    rintro e w9 ⟨rfl, z9, rfl⟩
    go_wp2_with fail
    go_ret
    exact ⟨rfl, HBc.out.gw z9⟩
  go_wp2_with fail
  refine (CH.out _ (below_gw W1 z2)).mono ?_
  rintro e w2 ⟨a2, c2, rfl, hr2, hb2⟩
  have R2 := Lib.hid (show IntsAt w2 a2 n1 (lotF l1) from by have := hr2.ints; rw [HN1.out] at this; exact this)
  obtain ⟨z3, rfl⟩ := gw_of_below (thru hb2 (below_gw W1 z2))
  clear hr2 hb2
  go_wp2_with fail
  refine (RC.out _ (below_gw W1 z3)).mono ?_
  rintro e w3 ⟨a3, c3, rfl, hr3, hb3⟩
  have R2 := Lib.hid (R2.out.below hb3)
  obtain ⟨z4, rfl⟩ := gw_of_below (thru hb3 (below_gw W1 z3))
  have R3 := Lib.hid hr3
  clear hr3 hb3
  go_wp2_with fail
  refine (FW.out _ (below_gw W1 z4)).mono ?_
  rintro e w4 ⟨a4, c4, rfl, hr4, hb4⟩
  have R2 := Lib.hid (R2.out.below hb4)
  have R3 := Lib.hid (R3.out.below hb4)
  have R4 := Lib.hid (show IntsAt w4 a4 n2 (lotF l2) from by have := hr4.ints; rw [HN2.out] at this; exact this)
  obtain ⟨z5, rfl⟩ := gw_of_below (thru hb4 (below_gw W1 z4))
  clear hr4 hb4
  go_wp2_with fail
  refine (RF.out _ (below_gw W1 z5)).mono ?_
  rintro e w5 ⟨a5, c5, rfl, hr5, hb5⟩
  have R2 := Lib.hid (R2.out.below hb5)
  have R3 := Lib.hid (R3.out.below hb5)
  have R4 := Lib.hid (R4.out.below hb5)
  obtain ⟨z6, rfl⟩ := gw_of_below (thru hb5 (below_gw W1 z5))
  have R5 := Lib.hid hr5
  clear hr5 hb5
  go_wp2_with fail
  refine (rints_b a2 a3 n1 n1 c2 c3 (lotF l1) (lotF l1) _ R2.out R3.out (by omega) (by omega) (intsB_self' _ _)).mono ?_
  rintro e w6 ⟨rfl, hb6⟩
  have R4 := Lib.hid (R4.out.below hb6)
  have R5 := Lib.hid (R5.out.below hb6)
  obtain ⟨z7, rfl⟩ := gw_of_below (thru hb6 (below_gw W1 z6))
  clear hb6
  go_wp2_with fail
  refine (Calls.gw_of (rints_b a4 a5 n2 n2 c4 c5 (lotF l2) (lotF l2) _ R4.out R5.out (by omega) (by omega) (intsB_self' _ _))).mono ?_
  rintro e w6 ⟨rfl, z8, rfl⟩
  go_wp2_with fail
  refine (Calls.gw_of (awake_any (gw W1 z8))).mono ?_
  rintro e w9 ⟨rfl, z9, rfl⟩
  go_wp2_with fail
  go_ret
  exact ⟨rfl, HBc.out.gw z9⟩
end Go.Proofs.Ytdcpgjepgajioaa
