/- Contracts of the laws' small functions: next, share, has. No conditions beyond each theorem's own. -/
import Derived.Test.YtecbacbecopbeaaDf
import Derived.Test.YtecbacbecopbeaaEb
import Derived.Test.YtecbacbecopbeaaAn
import Derived.Test.YtecbacbecopbeaaAe
set_option linter.unusedVariables false
set_option linter.unusedSimpArgs false
set_option linter.unusedSectionVars false
set_option linter.constructorNameAsVariable false
namespace Go.Proofs.Ytecbacbecopbeaa
open Go.RowKit

attribute [local go_sem] gw_cell gw_frozen gw_size

/-- a world in which g holds a count of at most N, gb the slice by; what w0 has is as it was -/
structure KW (w0 : World) (g gb N : Nat) (aB : Option Addr) (nB cB : Nat) (w : World) : Prop where
  low : Below w0.heap.size w0 w
  k : ∃ n : Nat, n ≤ N ∧ w.heap[g]? = some (.cells #[.int .i64 n] 3 (0, 0))
  b : w.heap[gb]? = some (.cells #[.slice aB nB cB] 39 (0, 0))
  lt : w0.heap.size ≤ g
  ne : gb ≠ g
theorem KW.gw {w0 w : World} {g gb N nB cB : Nat} {aB : Option Addr} (h : KW w0 g gb N aB nB cB w) (x : Grew) : KW w0 g gb N aB nB cB (gw w x) :=
  ⟨h.low.gw x, h.k.imp fun n ⟨h1, h2⟩ => ⟨h1, ((below_gw w x).block _ (Array.getElem?_eq_some_iff.1 h2).1).trans h2⟩, ((below_gw w x).block _ (Array.getElem?_eq_some_iff.1 h.b).1).trans h.b, h.lt, h.ne⟩
theorem KW.below {w0 w w' : World} {g gb N nB cB : Nat} {aB : Option Addr} (h : KW w0 g gb N aB nB cB w) (hb : Below w.heap.size w w') : KW w0 g gb N aB nB cB w' := by
  obtain ⟨x, rfl⟩ := gw_of_below hb
  exact h.gw x
theorem KW.mono {w0 w : World} {g gb N M nB cB : Nat} {aB : Option Addr} (h : KW w0 g gb N aB nB cB w) (hm : N ≤ M) : KW w0 g gb M aB nB cB w :=
  ⟨h.low, h.k.imp fun n ⟨h1, h2⟩ => ⟨Nat.le_trans h1 hm, h2⟩, h.b, h.lt, h.ne⟩

set_option maxRecDepth 100000 in
set_option maxHeartbeats 4000000 in
theorem next_any {w0 : World} {g gb N nB cB : Nat} {aB : Option Addr} {U : Nat → Int} (hU : NumsAt .u32 w0 aB nB U) (hu : ∀ i, i < nB → 0 ≤ U i ∧ U i ≤ 4294967295) (hn : 0 < nB) (hm : nB ≤ 9223372036854775807) (hN : N ≤ 1000000) (w : World) (h : KW w0 g gb N aB nB cB w) :
    Calls Try.prog 22 #[.pointer (some ⟨g, 0, none⟩), .pointer (some ⟨gb, 0, none⟩)] w fun e w' => ∃ x, e = .returned (.int .u32 x) ∧ (0 ≤ x ∧ x ≤ 4294967295) ∧ KW w0 g gb (N + 1) aB nB cB w' ∧ w.grownBy w' (some g) := by
  obtain ⟨low, ⟨n, hn1, hk⟩, hb, hlt, hne⟩ := h
  have c0 := cell_of_block hk 0 (by simp)
  have f0 := frozen_of_block hk 0
  have l0 := (Array.getElem?_eq_some_iff.1 hk).1
  have l1 := (Array.getElem?_eq_some_iff.1 hb).1
  have b0 := cell_of_block hb 0 (by simp)
  have K0 := Lib.hid hk; have B0 := Lib.hid hb; have LO := Lib.hid low; clear hk hb low
  go_enter Try.func22, Try.ntmps22
  go_upto_region 2 with (fail)
  obtain ⟨W2, hW2⟩ : ∃ W2, w.setCell ⟨g, 0, none⟩ (.int .i64 ((n : Int) + 1)) = W2 := ⟨_, rfl⟩
  have hg : w.grownBy W2 (some g) := by rw [← hW2]; exact grownBy_set _ _ _ _
  have k2 : W2.heap[g]? = some (.cells #[.int .i64 ((n + 1 : Nat) : Int)] 3 (0, 0)) := by rw [← hW2]; exact block_set 0 _ K0.out
  have b2 : W2.heap[gb]? = some (.cells #[.slice aB nB cB] 39 (0, 0)) := (hg.block _ l1 (by simp; omega)).trans B0.out
  have low2 : Below w0.heap.size w0 W2 := LO.out.grown hg LO.out.size (fun g' hg' => by cases hg'; omega)
  have c2 : W2.cell? ⟨g, 0, none⟩ = some (.int .i64 ((n : Int) + 1)) := (cell_of_block k2 0 (by simp)).trans (by simp)
  have l2 := (Array.getElem?_eq_some_iff.1 k2).1
  have l3 := (Array.getElem?_eq_some_iff.1 b2).1
  have b3 := cell_of_block b2 0 (by simp)
  have KK := Lib.hid (show KW w0 g gb (N + 1) aB nB cB W2 from ⟨low2, ⟨n + 1, by omega, k2⟩, b2, hlt, hne⟩)
  have GG := Lib.hid hg
  rw [hW2]
  have HW2 := Lib.hid hW2
  clear hW2 hg k2 b2 c0 f0 b0
  obtain ⟨bb, off, rfl, lb, hc⟩ := (hU.below low2).resolve_left (by omega)
  obtain ⟨q, em, ml, HQ⟩ : ∃ q : Nat, (((n : Int) + 1) % (nB : Int)) = q ∧ q < nB ∧ Hid ((n + 1) % nB = q) := ⟨(n + 1) % nB, by rw [Int.natCast_emod]; simp, Nat.mod_lt _ hn, Lib.hid rfl⟩
  have u0 := hc q ml
  have uu := hu q ml
  clear hc low2
  refine wp_region_gw (by kernel_rfl) (by kernel_rfl) ?_
  repeat (go_big_quiet_step (fail))
  refine wpQuiet_nil ?_
  rintro _ ⟨z, rfl⟩
  go_wp2_with fail
  go_ret
  exact ⟨_, rfl, by omega, KK.out.gw z, grownBy_trans GG.out (grownBy_of_below (below_gw _ z) _)⟩

/-- what share hands back -/
def shareV (n lo hi b : Int) : Value := if (n * lo + 999) / 1000 ≤ n * hi / 1000 then .tuple #[.int .i64 (innerI ((n * lo + 999) / 1000) (n * hi / 1000) b), .bool true] else .tuple #[.int .i64 0, .bool false]

set_option maxRecDepth 100000 in
set_option maxHeartbeats 4000000 in
theorem share_ok (n lo hi b : Int) (w : World) (h0 : 0 ≤ n ∧ n ≤ 4294967296) (h1 : 0 ≤ lo ∧ lo ≤ 1000) (h2 : 0 ≤ hi ∧ hi ≤ 1000) (h3 : 0 ≤ b ∧ b ≤ 4294967295) (le : (n * lo + 999) / 1000 ≤ n * hi / 1000) :
    Calls Try.prog 24 #[.int .i64 n, .agg #[.int .i64 lo, .int .i64 hi], .int .u32 b] w fun e w' => e = .returned (.tuple #[.int .i64 (innerI ((n * lo + 999) / 1000) (n * hi / 1000) b), .bool true]) ∧ Below w.heap.size w w' := by
  have m0 : 0 ≤ n * lo := Int.mul_nonneg h0.1 h1.1
  have m1 : n * lo ≤ 4294967296 * 1000 := Int.mul_le_mul h0.2 h1.2 h1.1 (by omega)
  have m2 : 0 ≤ n * hi := Int.mul_nonneg h0.1 h2.1
  have m3 : n * hi ≤ 4294967296 * 1000 := Int.mul_le_mul h0.2 h2.2 h2.1 (by omega)
  have d0 : (n * lo + 999).tdiv 1000 = (n * lo + 999) / 1000 := Int.tdiv_eq_ediv_of_nonneg (by omega)
  have d1 : (n * hi).tdiv 1000 = n * hi / 1000 := Int.tdiv_eq_ediv_of_nonneg m2
  have IA := Lib.hid (fun w => inner_any ((n * lo + 999) / 1000) (n * hi / 1000) b w (by omega) le (by omega) h3.1 h3.2)
  have p0 : 0 ≤ (n * lo + 999) / 1000 := by omega
  have p1 : (n * lo + 999) / 1000 ≤ 5000000000 := by omega
  have p2 : 0 ≤ n * hi / 1000 := by omega
  have p3 : n * hi / 1000 ≤ 5000000000 := by omega
  obtain ⟨L, hL⟩ : ∃ L, (n * lo + 999) / 1000 = L := ⟨_, rfl⟩
  obtain ⟨H, hH⟩ : ∃ H, n * hi / 1000 = H := ⟨_, rfl⟩
  rw [hL] at d0 IA le p0 p1 ⊢
  rw [hH] at d1 IA le p2 p3 ⊢
  have HLL := Lib.hid hL; have HHH := Lib.hid hH; clear hL hH
  go_enter Try.func24, Try.ntmps24
  go_wp2_with fail
  refine wp_region_gw (by kernel_rfl) (by kernel_rfl) ?_
  repeat (go_big_quiet_step (fail))
  refine wpQuiet_nil ?_
  rintro _ ⟨z, rfl⟩
  go_wp2_with fail
  refine (Calls.gw_of (IA.out _)).mono ?_
  rintro e w1 ⟨rfl, z1, rfl⟩
  go_wp2_with fail
  go_ret2
  exact ⟨rfl, (below_alloc w _).gw z1⟩
set_option maxRecDepth 100000 in
set_option maxHeartbeats 4000000 in
theorem share_no (n lo hi b : Int) (w : World) (h0 : 0 ≤ n ∧ n ≤ 4294967296) (h1 : 0 ≤ lo ∧ lo ≤ 1000) (h2 : 0 ≤ hi ∧ hi ≤ 1000) (le : ¬ (n * lo + 999) / 1000 ≤ n * hi / 1000) :
    Calls Try.prog 24 #[.int .i64 n, .agg #[.int .i64 lo, .int .i64 hi], .int .u32 b] w fun e w' => e = .returned (.tuple #[.int .i64 0, .bool false]) ∧ Below w.heap.size w w' := by
  have m0 : 0 ≤ n * lo := Int.mul_nonneg h0.1 h1.1
  have m1 : n * lo ≤ 4294967296 * 1000 := Int.mul_le_mul h0.2 h1.2 h1.1 (by omega)
  have m2 : 0 ≤ n * hi := Int.mul_nonneg h0.1 h2.1
  have m3 : n * hi ≤ 4294967296 * 1000 := Int.mul_le_mul h0.2 h2.2 h2.1 (by omega)
  have d0 : (n * lo + 999).tdiv 1000 = (n * lo + 999) / 1000 := Int.tdiv_eq_ediv_of_nonneg (by omega)
  have d1 : (n * hi).tdiv 1000 = n * hi / 1000 := Int.tdiv_eq_ediv_of_nonneg m2
  have p0 : 0 ≤ (n * lo + 999) / 1000 := by omega
  have p1 : (n * lo + 999) / 1000 ≤ 5000000000 := by omega
  have p2 : 0 ≤ n * hi / 1000 := by omega
  have p3 : n * hi / 1000 ≤ 5000000000 := by omega
  obtain ⟨L, hL⟩ : ∃ L, (n * lo + 999) / 1000 = L := ⟨_, rfl⟩
  obtain ⟨H, hH⟩ : ∃ H, n * hi / 1000 = H := ⟨_, rfl⟩
  rw [hL] at d0 le p0 p1
  rw [hH] at d1 le p2 p3
  clear hL hH
  go_enter Try.func24, Try.ntmps24
  go_wp2_with fail
  refine wp_region_gw (by kernel_rfl) (by kernel_rfl) ?_
  repeat (go_big_quiet_step (fail))
  refine wpQuiet_nil ?_
  rintro _ ⟨z, rfl⟩
  go_wp2_with fail
  go_ret2
  exact ⟨rfl, (below_alloc w _).gw z⟩

theorem has_any (lo hi x : Int) (w : World) : Calls Try.prog 26 #[.agg #[.int .i64 lo, .int .i64 hi], .int .i64 x] w fun e w' => e = .returned (.bool (decide (lo ≤ x) && decide (x ≤ hi))) ∧ Below w.heap.size w w' := by
  by_cases h1 : lo ≤ x <;> by_cases h2 : x ≤ hi
  all_goals go_enter Try.func26, Try.ntmps26
  all_goals go_wp2
  all_goals go_ret
  all_goals exact ⟨by simp [h1, h2], below_alloc w _⟩
end Go.Proofs.Ytecbacbecopbeaa
