/- Contracts of cut and in (WashNarrower). No conditions beyond each theorem's own. -/
import Derived.Test.YtecbacbecopbeaaBz
set_option linter.unusedVariables false
set_option linter.unusedSimpArgs false
set_option linter.unusedSectionVars false
set_option linter.constructorNameAsVariable false
namespace Go.Proofs.Ytecbacbecopbeaa
open Go.RowKit

attribute [local go_sem] gw_cell gw_frozen gw_size
attribute [local go_sem ↓] run_minZ run_maxZ

theorem grownBy_far {w W W' : World} {g B : Nat} (h1 : w.grownBy W (some g)) (h2 : W.grownBy W' (some B)) (hB : w.heap.size ≤ B) : w.grownBy W' (some g) :=
  ⟨h2.os.trans h1.os, h2.tape.trans h1.tape, h2.output.trans h1.output, Nat.le_trans h1.size h2.size, fun k hk hne => (h2.block k (Nat.lt_of_lt_of_le hk h1.size) (by simp; omega)).trans (h1.block k hk hne)⟩
theorem KW.far {w0 w w' : World} {g gb N nB cB B : Nat} {aB : Option Addr} (h : KW w0 g gb N aB nB cB w) (hg : w.grownBy w' (some B)) (h1 : w0.heap.size ≤ B) (h2 : g ≠ B) (h3 : gb ≠ B) : KW w0 g gb N aB nB cB w' :=
  ⟨h.low.grown hg h.low.size (fun g' hg' => by cases hg'; omega), h.k.imp fun n ⟨a, b⟩ => ⟨a, (hg.block _ (Array.getElem?_eq_some_iff.1 b).1 (by simp; omega)).trans b⟩, (hg.block _ (Array.getElem?_eq_some_iff.1 h.b).1 (by simp; omega)).trans h.b, h.lt, h.ne⟩
theorem nar_minmax {lo hi a b : Int} (h1 : lo ≤ a ∧ a ≤ hi) (h2 : lo ≤ b ∧ b ≤ hi) : Nar (minZ a b) (maxZ a b) lo hi := by
  unfold Nar minZ maxZ
  split <;> split <;> omega

set_option maxRecDepth 100000 in
set_option maxHeartbeats 8000000 in
theorem cut_any {w0 : World} {g gb N nB cB : Nat} {aB : Option Addr} {U : Nat → Int} (hU : NumsAt .u32 w0 aB nB U) (hu : ∀ i, i < nB → 0 ≤ U i ∧ U i ≤ 4294967295) (hn : 0 < nB) (hm : nB ≤ 9223372036854775807) (hN : N ≤ 1000000) (lo hi : Int) (h0 : -1000000000000000000 ≤ lo) (h1 : lo ≤ hi) (h2 : hi ≤ 1000000000000000000) (w : World) (h : KW w0 g gb N aB nB cB w) :
    Calls Try.prog 27 #[.agg #[.int .i64 lo, .int .i64 hi], .pointer (some ⟨g, 0, none⟩), .pointer (some ⟨gb, 0, none⟩)] w fun e w' => ∃ a b, e = .returned (.agg #[.int .i64 a, .int .i64 b]) ∧ Nar a b lo hi ∧ KW w0 g gb (N + 2) aB nB cB w' ∧ w.grownBy w' (some g) := by
  obtain ⟨W1, hW1⟩ : ∃ W1, (w.alloc (.cells #[.int .i64 lo, .int .i64 hi] 23)).alloc (.cells #[.int .i64 0, .int .i64 0] 23) = W1 := ⟨_, rfl⟩
  have hBc : Below w.heap.size w W1 := by rw [← hW1]; exact (below_alloc _ _).alloc (by simp) _
  have zc0 : W1.heap[w.heap.size]? = some (.cells #[.int .i64 lo, .int .i64 hi] 23 (0, 0)) := by rw [← hW1]; exact alloc_keep (alloc_at rfl)
  have zc1 : W1.heap[w.heap.size + 1]? = some (.cells #[.int .i64 0, .int .i64 0] 23 (0, 0)) := by rw [← hW1]; exact alloc_at (by simp)
  have c00 : W1.cell? ⟨w.heap.size, 0, none⟩ = some (.int .i64 lo) := cell_of_block zc0 0 (by simp)
  have c01 : W1.cell? ⟨w.heap.size, 1, none⟩ = some (.int .i64 hi) := cell_of_block zc0 1 (by simp)
  have c10 : W1.cell? ⟨w.heap.size + 1, 0, none⟩ = some (.int .i64 0) := cell_of_block zc1 0 (by simp)
  have c11 : W1.cell? ⟨w.heap.size + 1, 1, none⟩ = some (.int .i64 0) := cell_of_block zc1 1 (by simp)
  have lc0 := (Array.getElem?_eq_some_iff.1 zc0).1
  have lc1 := (Array.getElem?_eq_some_iff.1 zc1).1
  have Zc0 := Lib.hid zc0
  have Zc1 := Lib.hid zc1
  clear zc0 zc1
  have HBc := Lib.hid hBc; clear hBc
  have HWc := Lib.hid hW1; clear hW1
  have kw1 := h.below HBc.out
  have lg := (Array.getElem?_eq_some_iff.1 h.k.choose_spec.2).1
  have HGW := Lib.hid (grownBy_of_below HBc.out (some g))
  have gbl := (Array.getElem?_eq_some_iff.1 h.b).1
  have w0l := h.low.size
  clear h
  obtain ⟨low, ⟨n, hn1, hk⟩, hb, hlt, hne⟩ := kw1
  have c0 := cell_of_block hk 0 (by simp)
  have f0 := frozen_of_block hk 0
  have l0 := (Array.getElem?_eq_some_iff.1 hk).1
  have l1 := (Array.getElem?_eq_some_iff.1 hb).1
  have K0 := Lib.hid hk; have B0 := Lib.hid hb; have LO := Lib.hid low; clear hk hb low
  go_enter Try.func27, Try.ntmps27
  go_upto_region 1 with (fail)
  rw [HWc.out]
  go_upto_region 2 with (fail)
  obtain ⟨W2, hW2⟩ : ∃ W2, W1.setCell ⟨g, 0, none⟩ (.int .i64 ((n : Int) + 2)) = W2 := ⟨_, rfl⟩
  have hg : W1.grownBy W2 (some g) := by rw [← hW2]; exact grownBy_set _ _ _ _
  obtain ⟨K, hK⟩ : ∃ K : Nat, n + 2 = K := ⟨_, rfl⟩
  have k2 : W2.heap[g]? = some (.cells #[.int .i64 (K : Int)] 3 (0, 0)) := by rw [← hW2, ← hK]; exact block_set 0 _ K0.out
  have b2 : W2.heap[gb]? = some (.cells #[.slice aB nB cB] 39 (0, 0)) := (hg.block _ l1 (by simp; omega)).trans B0.out
  have low2 : Below w0.heap.size w0 W2 := LO.out.grown hg LO.out.size (fun g' hg' => by cases hg'; omega)
  have Zs := Lib.hid ((hg.block (w.heap.size) lc0 (by simp; omega)).trans Zc0.out)
  have Zr := Lib.hid ((hg.block (w.heap.size + 1) lc1 (by simp; omega)).trans Zc1.out)
  have c2 := cell_of_block k2 0 (by simp)
  have l2 := (Array.getElem?_eq_some_iff.1 k2).1
  have l3 := (Array.getElem?_eq_some_iff.1 b2).1
  have b3 := cell_of_block b2 0 (by simp)
  have s0 := cell_of_block Zs.out 0 (by simp)
  have s1 := cell_of_block Zs.out 1 (by simp)
  have ls := (Array.getElem?_eq_some_iff.1 Zs.out).1
  have lr := (Array.getElem?_eq_some_iff.1 Zr.out).1
  have KK := Lib.hid (show KW w0 g gb (N + 2) aB nB cB W2 from ⟨low2, ⟨K, by omega, k2⟩, b2, hlt, hne⟩)
  have GG := Lib.hid (grownBy_trans HGW.out hg)
  rw [hW2]
  have hKb : K ≤ 1000002 := by omega
  have HW2 := Lib.hid hW2
  clear hW2 hg k2 b2 c0 f0 c00 c01 c10 c11 hK hn1
  obtain ⟨bb, off, rfl, lb, hc⟩ := (hU.below low2).resolve_left (by omega)
  obtain ⟨q, em, ml, HQ⟩ : ∃ q : Nat, ((K : Int) % (nB : Int)) = q ∧ q < nB ∧ Hid (K % nB = q) := ⟨K % nB, by rw [Int.natCast_emod], Nat.mod_lt _ hn, Lib.hid rfl⟩
  obtain ⟨p, ep, pl, HP⟩ : ∃ p : Nat, (((K : Int) + 1) % (nB : Int)) = p ∧ p < nB ∧ Hid ((K + 1) % nB = p) := ⟨(K + 1) % nB, by rw [Int.natCast_emod]; simp, Nat.mod_lt _ hn, Lib.hid rfl⟩
  have u0 := hc q ml
  have uu := hu q ml
  have u1 := hc p pl
  have up := hu p pl
  clear hc low2
  have INN := Lib.hid (fun b W (hb : 0 ≤ b ∧ b ≤ 4294967295) => inner_any lo hi b W h0 h1 h2 hb.1 hb.2)
  refine wp_region_gw (by kernel_rfl) (by kernel_rfl) ?_
  repeat (go_big_quiet_step ((go_at_call 23; with_reducible exact Calls.gw_of (INN.out _ _ (by omega)))))
  refine wpQuiet_nil ?_
  rintro _ ⟨z, rfl⟩
  have rA := innerI_range (b := (U q + (K : Int)) % 4294967296) h1
  have rB := innerI_range (b := U p) h1
  obtain ⟨A, hA⟩ : ∃ A, innerI lo hi ((U q + (K : Int)) % 4294967296) = A := ⟨_, rfl⟩
  obtain ⟨B, hB⟩ : ∃ B, innerI lo hi (U p) = B := ⟨_, rfl⟩
  rw [hA] at rA
  rw [hB] at rB
  rw [hA, hB]
  clear hA hB
  have NR := Lib.hid (nar_minmax rA rB)
  have r0 := cell_of_block Zr.out 0 (by simp)
  have r1 := cell_of_block Zr.out 1 (by simp)
  have t0 := frozen_of_block Zr.out 0
  have t1 := frozen_of_block Zr.out 1
  go_wp2_with fail
  refine bodyPost_ret (v := .agg #[.int .i64 (minZ A B), .int .i64 (maxZ A B)]) (by simp [results, Try.results27, go_sem, *]) rfl ⟨_, _, rfl, NR.out, ?_, ?_⟩
  · exact (((KK.out.gw z).far (grownBy_set _ _ _ _) (by omega) (by omega) (by omega)).far (grownBy_set _ _ _ _) (by omega) (by omega) (by omega))
  · exact grownBy_far (grownBy_trans GG.out (grownBy_of_below (below_gw _ z) _)) (grownBy_trans (grownBy_set _ _ _ _) (grownBy_set _ _ _ _)) (by omega)
end Go.Proofs.Ytecbacbecopbeaa
