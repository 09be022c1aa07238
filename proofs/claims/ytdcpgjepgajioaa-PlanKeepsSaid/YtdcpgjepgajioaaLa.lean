/- Contract of PlanKeeps: true. No conditions beyond each theorem's own. -/
import Derived.Test.YtdcpgjepgajioaaCe
set_option linter.unusedVariables false
set_option linter.unusedSimpArgs false
set_option linter.unusedSectionVars false
set_option linter.constructorNameAsVariable false
namespace Go.Proofs.Ytdcpgjepgajioaa
open Go.RowKit

attribute [local go_sem] gw_cell gw_frozen gw_size

theorem intsB_self (n : Nat) (A : Nat → Int) : intsB n n A A = true := by unfold intsB; simp [allB]
theorem rowsB_self (n : Nat) (M : Nat → List Int) : rowsB n n M M = true := by unfold rowsB; rw [allB_t.2 (fun t _ => intsB_self 32 _)]; simp
theorem rlists_b {b : Bool} (aA aB : Option Addr) (n m cA cB : Nat) (M N : Nat → List Int) (w : World) (hA : RowsOf w aA n M) (hB : RowsOf w aB m N) (hn : n ≤ 9223372036854775807) (hm : m ≤ 9223372036854775807) (h : rowsB n m M N = b) :
    Calls Try.prog 15 #[.slice aA n cA, .slice aB m cB] w fun e w' => e = .returned (.bool b) ∧ Below w.heap.size w w' := h ▸ rlists_any aA aB n m cA cB M N w hA hB hn hm

set_option maxRecDepth 100000 in
set_option maxHeartbeats 4000000 in
theorem planKeeps_law (o : Otl) (y : Lyg) (aL : Option Addr) (m cL : Nat) (L : Nat → Int) (path : Int) (w : World) (hO : o.In w) (hfo : o.Fits) (hY : y.In w) (hfy : y.Fits) (hL : IntsAt w aL m L) (hm : m ≤ 9223372036854775807) :
    Calls Try.prog 3 #[o.val, y.val, .slice aL m cL, .int .i64 path] w fun e w' => e = .returned (.bool true) ∧ Below w.heap.size w w' := by
  unfold Otl.val Lyg.val
  obtain ⟨W1, hW1⟩ : ∃ W1, (w.alloc (.cells #[.slice o.aS o.nS o.cS, .int .i64 o.kl, .int .i64 o.kh, .slice o.aA o.nA o.cA, .slice o.aP o.nP o.cP] 27)).alloc (.cells #[.slice y.aR y.nR y.cR, .slice y.aM y.nM y.cM, .int .i64 y.lot, .int .i64 y.room] 29) = W1 := ⟨_, rfl⟩
  have hBc : Below w.heap.size w W1 := by rw [← hW1]; exact (below_alloc _ _).alloc (by simp) _
  have zc0 : W1.heap[w.heap.size]? = some (.cells #[.slice o.aS o.nS o.cS, .int .i64 o.kl, .int .i64 o.kh, .slice o.aA o.nA o.cA, .slice o.aP o.nP o.cP] 27 (0, 0)) := by rw [← hW1]; exact alloc_keep (alloc_at rfl)
  have zc1 : W1.heap[w.heap.size + 1]? = some (.cells #[.slice y.aR y.nR y.cR, .slice y.aM y.nM y.cM, .int .i64 y.lot, .int .i64 y.room] 29 (0, 0)) := by rw [← hW1]; exact alloc_at (by simp)
  have c00 : W1.cell? ⟨w.heap.size, 0, none⟩ = some (.slice o.aS o.nS o.cS) := cell_of_block zc0 0 (by simp)
  have c01 : W1.cell? ⟨w.heap.size, 1, none⟩ = some (.int .i64 o.kl) := cell_of_block zc0 1 (by simp)
  have c02 : W1.cell? ⟨w.heap.size, 2, none⟩ = some (.int .i64 o.kh) := cell_of_block zc0 2 (by simp)
  have c03 : W1.cell? ⟨w.heap.size, 3, none⟩ = some (.slice o.aA o.nA o.cA) := cell_of_block zc0 3 (by simp)
  have c04 : W1.cell? ⟨w.heap.size, 4, none⟩ = some (.slice o.aP o.nP o.cP) := cell_of_block zc0 4 (by simp)
  have c10 : W1.cell? ⟨w.heap.size + 1, 0, none⟩ = some (.slice y.aR y.nR y.cR) := cell_of_block zc1 0 (by simp)
  have c11 : W1.cell? ⟨w.heap.size + 1, 1, none⟩ = some (.slice y.aM y.nM y.cM) := cell_of_block zc1 1 (by simp)
  have c12 : W1.cell? ⟨w.heap.size + 1, 2, none⟩ = some (.int .i64 y.lot) := cell_of_block zc1 2 (by simp)
  have c13 : W1.cell? ⟨w.heap.size + 1, 3, none⟩ = some (.int .i64 y.room) := cell_of_block zc1 3 (by simp)
  have lc0 := (Array.getElem?_eq_some_iff.1 zc0).1
  have lc1 := (Array.getElem?_eq_some_iff.1 zc1).1
  clear zc0 zc1
  have HBc := Lib.hid hBc; clear hBc
  have HWc := Lib.hid hW1; clear hW1
  have GR := great_any o y aL m cL W1 (hO.below HBc.out) hfo hfy hm
  have LT := fun W (hb : Below W1.heap.size W1 W) => Left_any o y aL m cL L path W (hO.below (thru hb HBc.out)) hfo (hY.below (thru hb HBc.out)) hfy (hL.below (thru hb HBc.out)) hm
  have RT := fun W (hb : Below W1.heap.size W1 W) => rLeft_any o y aL m cL L path W (hO.below (thru hb HBc.out)) hfo (hY.below (thru hb HBc.out)) hfy (hL.below (thru hb HBc.out)) hm
  have KP := fun W (hb : Below W1.heap.size W1 W) => Keeps_any o y aL m cL L W (hO.below (thru hb HBc.out)) hfo (hY.below (thru hb HBc.out)) hfy (hL.below (thru hb HBc.out)) hm
  have RK := fun W (hb : Below W1.heap.size W1 W) => rKeeps_any o y aL m cL L W (hO.below (thru hb HBc.out)) hfo (hY.below (thru hb HBc.out)) hfy (hL.below (thru hb HBc.out)) hm
  unfold LeftEnd at LT RT
  unfold KeepsEnd at KP RK
  obtain ⟨kk, hk⟩ : ∃ kk : Nat, (if leftE o y m L path = 0 then m else 0) = kk := ⟨_, rfl⟩
  have hkm : kk ≤ m := by rw [← hk]; split <;> omega
  obtain ⟨ly, hly⟩ : ∃ ly, leftY o y m L path = ly := ⟨_, rfl⟩
  obtain ⟨M, hM⟩ : ∃ M, o.leftRow y path.toNat L = M := ⟨_, rfl⟩
  simp only [hk, hly, hM] at LT RT
  obtain ⟨le, hle⟩ : ∃ le, leftE o y m L path = le := ⟨_, rfl⟩
  simp only [hle] at LT RT
  obtain ⟨n1, hn1⟩ : ∃ n1, keepsP o y m L = n1 := ⟨_, rfl⟩
  obtain ⟨n2, hn2⟩ : ∃ n2, keepsY o y m L = n2 := ⟨_, rfl⟩
  obtain ⟨n3, hn3⟩ : ∃ n3, keepsE o y m L = n3 := ⟨_, rfl⟩
  simp only [hn1, hn2, hn3] at KP RK
  unfold Otl.val Lyg.val at GR LT RT KP RK
  have GR := Lib.hid GR; have LT := Lib.hid LT; have RT := Lib.hid RT; have KP := Lib.hid KP; have RK := Lib.hid RK
  clear hk hly hM hle hn1 hn2 hn3 hO hY hL hfo hfy
  go_enter Try.func3, Try.ntmps3
  go_upto_region 1 with (fail)
  rw [HWc.out]
  go_wp2_with fail
  refine GR.out.mono ?_
  rintro e w1 ⟨g, rfl, hg, hb⟩
  obtain ⟨z1, rfl⟩ := gw_of_below hb
  clear hb hg
  cases g
  rotate_left
  · go_wp2_with fail
    refine (Calls.gw_of (awake_any (gw W1 z1))).mono ?_
    rintro e w9 ⟨rfl, z9, rfl⟩
    go_wp2_with fail
    go_ret
    exact ⟨rfl, HBc.out.gw z9⟩
  go_wp2_with fail
  refine (LT.out _ (below_gw W1 z1)).mono ?_
  rintro e w2 ⟨a2, c2, rfl, hr2, hb2⟩
  obtain ⟨z2, rfl⟩ := gw_of_below (thru hb2 (below_gw W1 z1))
  have R2 := Lib.hid hr2
  clear hr2 hb2
  go_wp2_with fail
  refine (RT.out _ (below_gw W1 z2)).mono ?_
  rintro e w3 ⟨a3, c3, rfl, hr3, hb3⟩
  have R2 := Lib.hid (R2.out.below hb3)
  obtain ⟨z3, rfl⟩ := gw_of_below (thru hb3 (below_gw W1 z2))
  have R3 := Lib.hid hr3
  clear hr3 hb3
  go_wp2_with fail
  refine (KP.out _ (below_gw W1 z3)).mono ?_
  rintro e w4 ⟨rfl, hb4⟩
  have R2 := Lib.hid (R2.out.below hb4)
  have R3 := Lib.hid (R3.out.below hb4)
  obtain ⟨z4, rfl⟩ := gw_of_below (thru hb4 (below_gw W1 z3))
  clear hb4
  go_wp2_with fail
  refine (RK.out _ (below_gw W1 z4)).mono ?_
  rintro e w5 ⟨rfl, hb5⟩
  have R2 := Lib.hid (R2.out.below hb5)
  have R3 := Lib.hid (R3.out.below hb5)
  obtain ⟨z5, rfl⟩ := gw_of_below (thru hb5 (below_gw W1 z4))
  clear hb5
  go_wp2_with fail
  refine (Calls.gw_of (rlists_b a2 a3 kk kk c2 c3 M M _ R2.out R3.out (by omega) (by omega) (rowsB_self kk M))).mono ?_
  rintro e w6 ⟨rfl, z6, rfl⟩
  go_wp2_with fail
  refine (Calls.gw_of (awake_any (gw W1 z6))).mono ?_
  rintro e w9 ⟨rfl, z9, rfl⟩
  go_wp2_with fail
  go_ret
  exact ⟨rfl, HBc.out.gw z9⟩
end Go.Proofs.Ytdcpgjepgajioaa
