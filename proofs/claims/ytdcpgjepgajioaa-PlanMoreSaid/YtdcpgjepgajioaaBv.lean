/- Contract of the reference's later. No conditions beyond each theorem's own. -/
import Derived.Test.YtdcpgjepgajioaaBu
import Derived.Test.YtdcpgjepgajioaaBi
set_option linter.unusedVariables false
set_option linter.unusedSimpArgs false
set_option linter.unusedSectionVars false
set_option linter.constructorNameAsVariable false
namespace Go.Proofs.Ytdcpgjepgajioaa
open Go.RowKit

attribute [local go_sem] gw_cell gw_frozen gw_size

attribute [local go_sem ↓] run_minI
theorem made_ints {j : Nat} (hj : j < 32) : (madeCells #[.int .i64 0] (32 * 1))[j]? = some (.int .i64 0) := by
  unfold madeCells
  simp [hj, Nat.mod_one]
set_option maxRecDepth 100000 in
theorem made_row (W : World) : ∃ W2, (Instr.makeSlice 22 (.int .i64 32) (.int .i64 32)).run Try.prog W = .ok (.slice (some ⟨W.heap.size, 0, none⟩) 32 32) W2 ∧ CelAt W2 W.heap.size 0 zero32 ∧ Below W.heap.size W W2 := by
  obtain ⟨j0, jh, jy0, jy1, jy2⟩ := info_parts infoInt
  have := run_make (P := Try.prog) W 22 3 j0 (.int .i64 0) Try.underlying22 jh jy0 .i64 .i64 32 32 (by omega) (by omega) (by rw [jy2]; decide) (by omega)
  rw [jy1] at this
  refine ⟨_, this, ⟨rfl, fun j hj => ?_, fun k => frozen_of_block (alloc_at rfl) k⟩, below_alloc _ _⟩
  rw [cell_of_row _ _ _ _ _ _ (alloc_at rfl), Nat.zero_add]
  show (madeCells #[.int .i64 0] (32 * 1))[j]? = _
  rw [made_ints hj]
  congr 2
  unfold zero32
  rw [List.getD_eq_getElem?_getD, List.getElem?_replicate]
  split <;> rfl

set_option maxRecDepth 100000 in
set_option maxHeartbeats 4000000 in
theorem rlater_lo (o : Otl) (g c0 : Nat) (c : List Int) (w : World) (hC : CelAt w g 0 c) (hn : NonNeg c) (ht : tot c ≤ 140737488355328) (k0 : 0 ≤ o.kl) (k1 : o.kl ≤ o.kh) (k2 : o.kh ≤ 10000) :
    Calls Try.prog 59 #[o.val, .slice (some ⟨g, 0, none⟩) 32 c0, .bool false] w fun e w' => ∃ b, e = .returned (.slice (some ⟨b, 0, none⟩) 32 32) ∧ CelAt w' b 0 (lateF (parLo o) c) ∧ w.heap.size ≤ b ∧ Below w.heap.size w w' := by
  unfold Otl.val
  obtain ⟨W1, hW1⟩ : ∃ W1, w.alloc (.cells #[.slice o.aS o.nS o.cS, .int .i64 o.kl, .int .i64 o.kh, .slice o.aA o.nA o.cA, .slice o.aP o.nP o.cP] 27) = W1 := ⟨_, rfl⟩
  have hBc : Below w.heap.size w W1 := by rw [← hW1]; exact below_alloc _ _
  have zc0 : W1.heap[w.heap.size]? = some (.cells #[.slice o.aS o.nS o.cS, .int .i64 o.kl, .int .i64 o.kh, .slice o.aA o.nA o.cA, .slice o.aP o.nP o.cP] 27 (0, 0)) := by rw [← hW1]; exact alloc_at rfl
  have c00 : W1.cell? ⟨w.heap.size, 0, none⟩ = some (.slice o.aS o.nS o.cS) := cell_of_block zc0 0 (by simp)
  have c01 : W1.cell? ⟨w.heap.size, 1, none⟩ = some (.int .i64 o.kl) := cell_of_block zc0 1 (by simp)
  have c02 : W1.cell? ⟨w.heap.size, 2, none⟩ = some (.int .i64 o.kh) := cell_of_block zc0 2 (by simp)
  have c03 : W1.cell? ⟨w.heap.size, 3, none⟩ = some (.slice o.aA o.nA o.cA) := cell_of_block zc0 3 (by simp)
  have c04 : W1.cell? ⟨w.heap.size, 4, none⟩ = some (.slice o.aP o.nP o.cP) := cell_of_block zc0 4 (by simp)
  have lc0 := (Array.getElem?_eq_some_iff.1 zc0).1
  have Zc0 := Lib.hid zc0
  clear zc0
  have HBc := Lib.hid hBc; clear hBc
  have HWc := Lib.hid hW1; clear hW1
  obtain ⟨W2, MK, hz, hb⟩ := made_row W1
  have HZ := Lib.hid hz; have HB := Lib.hid (HBc.out.trans (hb.mono HBc.out.size)); have HBL := Lib.hid hb
  have HC := Lib.hid (hC.below HB.out)
  have HO := Lib.hid ((hb.block _ lc0).trans Zc0.out)
  have s1 := HBc.out.size
  have hg := hC.lt
  have HL := Lib.hid hC.len
  have HN := Lib.hid hn
  obtain ⟨b, hbq⟩ : ∃ b, W1.heap.size = b := ⟨_, rfl⟩
  rw [hbq] at MK
  have HZ2 := Lib.hid (show CelAt W2 b 0 (lateN (parLo o) c 0) by rw [← hbq]; exact HZ.out)
  have ls : w.heap.size < b := by rw [← hbq]; exact lc0
  clear hz hb hC hn HZ hbq c00 c01 c02 c03 c04 lc0 s1
  go_enter Try.func59, Try.ntmps59
  go_upto_region 1 with (fail)
  rw [HWc.out]
  go_wp2_with fail
  clear MK
  go_loopw [8] (fun i wr => ∃ k : Nat, k ≤ 32 ∧ i = .int .i64 (k : Int) ∧ Hid (wr.heap[w.heap.size]? = some (.cells o.cells 27 (0, 0))) ∧ Hid (CelAt wr g 0 c) ∧ Hid (CelAt wr b 0 (lateN (parLo o) c k)) ∧ Hid (Below w.heap.size w wr)) (fun i _ => 32 - (intOf i).toNat)
  case atStart => exact ⟨0, Nat.zero_le _, rfl, HO, HC, HZ2, HB⟩
  case round =>
    obtain ⟨k, hk, rfl, HOk, HCk, HNk, HBk⟩ := hrel
    by_cases hlt : k < 32
    · obtain ⟨j, hj⟩ : ∃ j, min (k + 1) 31 = j := ⟨_, rfl⟩
      have hj2 : j < 32 := by omega
      have ej : min ((k : Int) + 1) 31 = (j : Int) := by omega
      obtain ⟨x, hx⟩ : ∃ x, c.getD k 0 = x := ⟨_, rfl⟩
      obtain ⟨y, hy⟩ : ∃ y, (lateN (parLo o) c k).getD j 0 = y := ⟨_, rfl⟩
      have cc := HCk.out.cell k hlt
      have cn := HNk.out.cell j hj2
      rw [hx, Nat.zero_add] at cc
      rw [hy, Nat.zero_add] at cn
      have cf := HNk.out.free j
      have l1 := HCk.out.lt
      have l2 := HNk.out.lt
      have u1 : wr.cell? ⟨w.heap.size, 1, none⟩ = some (.int .i64 o.kl) := cell_of_block HOk.out 1 (by simp [Otl.cells])
      have u2 : wr.cell? ⟨w.heap.size, 2, none⟩ = some (.int .i64 o.kh) := cell_of_block HOk.out 2 (by simp [Otl.cells])
      have l3 := (Array.getElem?_eq_some_iff.1 HOk.out).1
      have xa := HN.out.getD k
      have xb := HN.out.le_tot k
      rw [hx] at xa xb
      have hpp : ∀ i, 0 ≤ parLo o (c.getD i 0) ∧ parLo o (c.getD i 0) ≤ c.getD i 0 := fun i => by have := par_rng (o := o) (HN.out.getD i) k0 k1 k2; omega
      have LN := lateN_ok (p := parLo o) (c := c) (fun i => (hpp i).1) k
      have y0 := LN.1.getD j
      have y1 := LN.1.le_tot j
      have t1 := partN_le (p := parLo o) (e := 0) (c := c) (fun i => by have := (hpp i).2; omega) k (by have := HL.out; omega)
      have t2 := tot_take_le HN.out k
      have p0 := hpp k
      rw [hy] at y0 y1
      rw [hx] at p0
      rw [LN.2] at y1
      have hs1 : y + parLo o x ≤ 281474976710656 := by omega
      obtain ⟨a0, a1⟩ := mul_rng xa (show x ≤ 140737488355328 by omega) k0 (show o.kl ≤ 10000 by omega)
      obtain ⟨b0, b1⟩ := mul_rng xa (show x ≤ 140737488355328 by omega) (show 0 ≤ o.kh by omega) k2
      obtain ⟨qa, hqa⟩ : ∃ q, x * o.kl = q := ⟨_, rfl⟩
      obtain ⟨qb, hqb⟩ : ∃ q, x * o.kh = q := ⟨_, rfl⟩
      rw [hqa] at a0 a1
      rw [hqb] at b0 b1
      have hwa : IntKind.i64.wrap (x * o.kl) = qa := by rw [hqa]; exact IntWalk.i64_in _ (by omega)
      have hwb : IntKind.i64.wrap (x * o.kh) = qb := by rw [hqb]; exact IntWalk.i64_in _ (by omega)
      obtain ⟨px, hpx⟩ : ∃ px, parLo o x = px := ⟨_, rfl⟩
      have hpq : px = qa / 10000 := by rw [← hpx]; unfold parLo; rw [hqa]
      rw [hpx] at p0 hs1
      have HS := Lib.hid (show lateN (parLo o) c (k + 1) = (lateN (parLo o) c k).set j (y + px) by show (lateN (parLo o) c k).set (min (k + 1) 31) ((lateN (parLo o) c k).getD (min (k + 1) 31) 0 + parLo o (c.getD k 0)) = _; rw [hj, hy, hx, hpx])
      have HPQ := Lib.hid hpq
      rw [hpq] at p0 hs1
      have hs0 : 0 ≤ y + qa / 10000 := by omega
      clear LN y1 t1 t2 hx hy hj hpp hpx hpq xb
      go_wp2_with fail
      go_region
      go_wp2_with fail
      go_roundw
      case rel =>
        have HN2 := HNk.out.set j (y + px) hj2
        rw [← HS.out] at HN2
        have HR2 := Rw.set wr b 0 j (.int .i64 (y + px)) hj2
        rw [Nat.zero_add] at HN2 HR2
        rw [HPQ.out] at HN2 HR2
        replace HN2 := HN2.drew
        replace HR2 := HR2.drew
        exact ⟨k + 1, by omega, by go_num, Lib.hid ((HR2.g.block _ l3 (fun e => by cases e; omega)).trans HOk.out), Lib.hid (HCk.out.other HR2 (.inl (by omega))), Lib.hid HN2, Lib.hid (HBk.out.grown HR2.g HBk.out.size (fun k e => by cases e; omega))⟩
      case measure => simp [intOf]; omega
    · obtain rfl : k = 32 := by omega
      go_wp2_with fail
      go_ret
      exact ⟨b, rfl, HNk.out, by omega, HBk.out⟩

set_option maxRecDepth 100000 in
set_option maxHeartbeats 4000000 in
theorem rlater_hi (o : Otl) (g c0 : Nat) (c : List Int) (w : World) (hC : CelAt w g 0 c) (hn : NonNeg c) (ht : tot c ≤ 140737488355328) (k0 : 0 ≤ o.kl) (k1 : o.kl ≤ o.kh) (k2 : o.kh ≤ 10000) :
    Calls Try.prog 59 #[o.val, .slice (some ⟨g, 0, none⟩) 32 c0, .bool true] w fun e w' => ∃ b, e = .returned (.slice (some ⟨b, 0, none⟩) 32 32) ∧ CelAt w' b 0 (lateF (parHi o) c) ∧ w.heap.size ≤ b ∧ Below w.heap.size w w' := by
  unfold Otl.val
  obtain ⟨W1, hW1⟩ : ∃ W1, w.alloc (.cells #[.slice o.aS o.nS o.cS, .int .i64 o.kl, .int .i64 o.kh, .slice o.aA o.nA o.cA, .slice o.aP o.nP o.cP] 27) = W1 := ⟨_, rfl⟩
  have hBc : Below w.heap.size w W1 := by rw [← hW1]; exact below_alloc _ _
  have zc0 : W1.heap[w.heap.size]? = some (.cells #[.slice o.aS o.nS o.cS, .int .i64 o.kl, .int .i64 o.kh, .slice o.aA o.nA o.cA, .slice o.aP o.nP o.cP] 27 (0, 0)) := by rw [← hW1]; exact alloc_at rfl
  have c00 : W1.cell? ⟨w.heap.size, 0, none⟩ = some (.slice o.aS o.nS o.cS) := cell_of_block zc0 0 (by simp)
  have c01 : W1.cell? ⟨w.heap.size, 1, none⟩ = some (.int .i64 o.kl) := cell_of_block zc0 1 (by simp)
  have c02 : W1.cell? ⟨w.heap.size, 2, none⟩ = some (.int .i64 o.kh) := cell_of_block zc0 2 (by simp)
  have c03 : W1.cell? ⟨w.heap.size, 3, none⟩ = some (.slice o.aA o.nA o.cA) := cell_of_block zc0 3 (by simp)
  have c04 : W1.cell? ⟨w.heap.size, 4, none⟩ = some (.slice o.aP o.nP o.cP) := cell_of_block zc0 4 (by simp)
  have lc0 := (Array.getElem?_eq_some_iff.1 zc0).1
  have Zc0 := Lib.hid zc0
  clear zc0
  have HBc := Lib.hid hBc; clear hBc
  have HWc := Lib.hid hW1; clear hW1
  obtain ⟨W2, MK, hz, hb⟩ := made_row W1
  have HZ := Lib.hid hz; have HB := Lib.hid (HBc.out.trans (hb.mono HBc.out.size)); have HBL := Lib.hid hb
  have HC := Lib.hid (hC.below HB.out)
  have HO := Lib.hid ((hb.block _ lc0).trans Zc0.out)
  have s1 := HBc.out.size
  have hg := hC.lt
  have HL := Lib.hid hC.len
  have HN := Lib.hid hn
  obtain ⟨b, hbq⟩ : ∃ b, W1.heap.size = b := ⟨_, rfl⟩
  rw [hbq] at MK
  have HZ2 := Lib.hid (show CelAt W2 b 0 (lateN (parHi o) c 0) by rw [← hbq]; exact HZ.out)
  have ls : w.heap.size < b := by rw [← hbq]; exact lc0
  clear hz hb hC hn HZ hbq c00 c01 c02 c03 c04 lc0 s1
  go_enter Try.func59, Try.ntmps59
  go_upto_region 1 with (fail)
  rw [HWc.out]
  go_wp2_with fail
  clear MK
  go_loopw [8] (fun i wr => ∃ k : Nat, k ≤ 32 ∧ i = .int .i64 (k : Int) ∧ Hid (wr.heap[w.heap.size]? = some (.cells o.cells 27 (0, 0))) ∧ Hid (CelAt wr g 0 c) ∧ Hid (CelAt wr b 0 (lateN (parHi o) c k)) ∧ Hid (Below w.heap.size w wr)) (fun i _ => 32 - (intOf i).toNat)
  case atStart => exact ⟨0, Nat.zero_le _, rfl, HO, HC, HZ2, HB⟩
  case round =>
    obtain ⟨k, hk, rfl, HOk, HCk, HNk, HBk⟩ := hrel
    by_cases hlt : k < 32
    · obtain ⟨j, hj⟩ : ∃ j, min (k + 1) 31 = j := ⟨_, rfl⟩
      have hj2 : j < 32 := by omega
      have ej : min ((k : Int) + 1) 31 = (j : Int) := by omega
      obtain ⟨x, hx⟩ : ∃ x, c.getD k 0 = x := ⟨_, rfl⟩
      obtain ⟨y, hy⟩ : ∃ y, (lateN (parHi o) c k).getD j 0 = y := ⟨_, rfl⟩
      have cc := HCk.out.cell k hlt
      have cn := HNk.out.cell j hj2
      rw [hx, Nat.zero_add] at cc
      rw [hy, Nat.zero_add] at cn
      have cf := HNk.out.free j
      have l1 := HCk.out.lt
      have l2 := HNk.out.lt
      have u1 : wr.cell? ⟨w.heap.size, 1, none⟩ = some (.int .i64 o.kl) := cell_of_block HOk.out 1 (by simp [Otl.cells])
      have u2 : wr.cell? ⟨w.heap.size, 2, none⟩ = some (.int .i64 o.kh) := cell_of_block HOk.out 2 (by simp [Otl.cells])
      have l3 := (Array.getElem?_eq_some_iff.1 HOk.out).1
      have xa := HN.out.getD k
      have xb := HN.out.le_tot k
      rw [hx] at xa xb
      have hpp : ∀ i, 0 ≤ parHi o (c.getD i 0) ∧ parHi o (c.getD i 0) ≤ c.getD i 0 := fun i => by have := par_rng (o := o) (HN.out.getD i) k0 k1 k2; omega
      have LN := lateN_ok (p := parHi o) (c := c) (fun i => (hpp i).1) k
      have y0 := LN.1.getD j
      have y1 := LN.1.le_tot j
      have t1 := partN_le (p := parHi o) (e := 0) (c := c) (fun i => by have := (hpp i).2; omega) k (by have := HL.out; omega)
      have t2 := tot_take_le HN.out k
      have p0 := hpp k
      rw [hy] at y0 y1
      rw [hx] at p0
      rw [LN.2] at y1
      have hs1 : y + parHi o x ≤ 281474976710656 := by omega
      obtain ⟨a0, a1⟩ := mul_rng xa (show x ≤ 140737488355328 by omega) k0 (show o.kl ≤ 10000 by omega)
      obtain ⟨b0, b1⟩ := mul_rng xa (show x ≤ 140737488355328 by omega) (show 0 ≤ o.kh by omega) k2
      obtain ⟨qa, hqa⟩ : ∃ q, x * o.kl = q := ⟨_, rfl⟩
      obtain ⟨qb, hqb⟩ : ∃ q, x * o.kh = q := ⟨_, rfl⟩
      rw [hqa] at a0 a1
      rw [hqb] at b0 b1
      have hwa : IntKind.i64.wrap (x * o.kl) = qa := by rw [hqa]; exact IntWalk.i64_in _ (by omega)
      have hwb : IntKind.i64.wrap (x * o.kh) = qb := by rw [hqb]; exact IntWalk.i64_in _ (by omega)
      obtain ⟨px, hpx⟩ : ∃ px, parHi o x = px := ⟨_, rfl⟩
      have hpq : px = (qb + 10000 - 1) / 10000 := by rw [← hpx]; unfold parHi; rw [hqb, show qb + 9999 = qb + 10000 - 1 by omega]
      rw [hpx] at p0 hs1
      have HS := Lib.hid (show lateN (parHi o) c (k + 1) = (lateN (parHi o) c k).set j (y + px) by show (lateN (parHi o) c k).set (min (k + 1) 31) ((lateN (parHi o) c k).getD (min (k + 1) 31) 0 + parHi o (c.getD k 0)) = _; rw [hj, hy, hx, hpx])
      have HPQ := Lib.hid hpq
      rw [hpq] at p0 hs1
      have hs0 : 0 ≤ y + (qb + 10000 - 1) / 10000 := by omega
      clear LN y1 t1 t2 hx hy hj hpp hpx hpq xb
      go_wp2_with fail
      go_region
      go_wp2_with fail
      go_region
      go_wp2_with fail
      go_roundw
      case rel =>
        have HN2 := HNk.out.set j (y + px) hj2
        rw [← HS.out] at HN2
        have HR2 := Rw.set wr b 0 j (.int .i64 (y + px)) hj2
        rw [Nat.zero_add] at HN2 HR2
        rw [HPQ.out] at HN2 HR2
        replace HN2 := HN2.drew
        replace HR2 := HR2.drew
        replace HN2 := HN2.drew
        replace HR2 := HR2.drew
        exact ⟨k + 1, by omega, by go_num, Lib.hid ((HR2.g.block _ l3 (fun e => by cases e; omega)).trans HOk.out), Lib.hid (HCk.out.other HR2 (.inl (by omega))), Lib.hid HN2, Lib.hid (HBk.out.grown HR2.g HBk.out.size (fun k e => by cases e; omega))⟩
      case measure => simp [intOf]; omega
    · obtain rfl : k = 32 := by omega
      go_wp2_with fail
      go_ret
      exact ⟨b, rfl, HNk.out, by omega, HBk.out⟩
end Go.Proofs.Ytdcpgjepgajioaa
