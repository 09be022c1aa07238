/- Contracts of parts of amounts, of rooms, of later and first. No conditions beyond each theorem's own. -/
import Derived.Test.YtdcpgjepgajioaaBf
set_option linter.unusedVariables false
set_option linter.unusedSimpArgs false
set_option linter.unusedSectionVars false
set_option linter.constructorNameAsVariable false
namespace Go.Proofs.Ytdcpgjepgajioaa
open Go.RowKit

attribute [local go_sem] gw_cell gw_frozen gw_size
attribute [local go_sem ↓] run_minI

/-- the least and the greatest part -/
def parLo (o : Otl) (n : Int) : Int := n * o.kl / 10000
def parHi (o : Otl) (n : Int) : Int := (n * o.kh + 9999) / 10000
theorem mul_rng {n k m : Int} (h0 : 0 ≤ n) (h1 : n ≤ m) (k0 : 0 ≤ k) (k1 : k ≤ 10000) : 0 ≤ n * k ∧ n * k ≤ m * 10000 :=
  ⟨Int.mul_nonneg h0 k0, Int.le_trans (Int.mul_le_mul_of_nonneg_left k1 h0) (Int.mul_le_mul_of_nonneg_right h1 (by omega))⟩
theorem par_rng {o : Otl} {n : Int} (h0 : 0 ≤ n) (hl : 0 ≤ o.kl) (hh : o.kl ≤ o.kh) (h1 : o.kh ≤ 10000) : 0 ≤ parLo o n ∧ parLo o n ≤ n ∧ 0 ≤ parHi o n ∧ parHi o n ≤ n ∧ parLo o n ≤ parHi o n := by
  have a := mul_rng h0 (Int.le_refl n) hl (by omega)
  have b := mul_rng h0 (Int.le_refl n) (show 0 ≤ o.kh by omega) h1
  have c : n * o.kl ≤ n * o.kh := Int.mul_le_mul_of_nonneg_left hh h0
  unfold parLo parHi
  omega

set_option maxRecDepth 100000 in
set_option maxHeartbeats 4000000 in
theorem parLo_any (o : Otl) (n : Int) (bo : Nat) (w : World) (hz : w.cell? ⟨bo, 1, none⟩ = some (.int .i64 o.kl)) (h0 : 0 ≤ n) (h1 : n ≤ 140737488355328) (k0 : 0 ≤ o.kl) (k1 : o.kl ≤ 10000) :
    Calls Try.prog 53 #[.int .i64 n, .pointer (some ⟨bo, 0, none⟩)] w fun e w' => e = .returned (.int .i64 (parLo o n)) ∧ w = w' := by
  obtain ⟨m0, m1⟩ := mul_rng h0 h1 k0 k1
  unfold parLo
  obtain ⟨q, hq⟩ : ∃ q, n * o.kl = q := ⟨_, rfl⟩
  have hw : IntKind.i64.wrap (n * o.kl) = q := by rw [hq]; rw [hq] at m0 m1; exact IntWalk.i64_in _ (by omega)
  rw [hq] at m0 m1 ⊢
  have HQ := Lib.hid hq; clear hq
  have hw2 : n * o.kl = q := HQ.out
  go_enter Try.func53, Try.ntmps53
  go_wp2
  go_ret
  exact ⟨rfl, rfl⟩

set_option maxRecDepth 100000 in
set_option maxHeartbeats 4000000 in
theorem parHi_any (o : Otl) (n : Int) (bo : Nat) (w : World) (hz : w.cell? ⟨bo, 2, none⟩ = some (.int .i64 o.kh)) (h0 : 0 ≤ n) (h1 : n ≤ 140737488355328) (k0 : 0 ≤ o.kh) (k1 : o.kh ≤ 10000) :
    Calls Try.prog 54 #[.int .i64 n, .pointer (some ⟨bo, 0, none⟩)] w fun e w' => e = .returned (.int .i64 (parHi o n)) ∧ w = w' := by
  obtain ⟨m0, m1⟩ := mul_rng h0 h1 k0 k1
  unfold parHi
  obtain ⟨q, hq⟩ : ∃ q, n * o.kh = q := ⟨_, rfl⟩
  have hw : IntKind.i64.wrap (n * o.kh) = q := by rw [hq]; rw [hq] at m0 m1; exact IntWalk.i64_in _ (by omega)
  rw [hq] at m0 m1 ⊢
  have HQ := Lib.hid hq; clear hq
  have hw2 : n * o.kh = q := HQ.out
  go_enter Try.func54, Try.ntmps54
  go_wp2
  go_ret
  exact ⟨by rw [show q + 9999 = q + 10000 - 1 by omega]; rfl, rfl⟩

set_option maxRecDepth 100000 in
set_option maxHeartbeats 4000000 in
theorem room1_any (n room : Int) (by' : Nat) (w : World) (hz : w.cell? ⟨by', 3, none⟩ = some (.int .i64 room)) :
    Calls Try.prog 40 #[.int .i64 n, .pointer (some ⟨by', 0, none⟩)] w fun e w' => e = .returned (.bool (decide (n ≤ room))) ∧ w = w' := by
  go_enter Try.func40, Try.ntmps40
  go_wp2
  go_ret
  exact ⟨rfl, rfl⟩

set_option maxRecDepth 100000 in
set_option maxHeartbeats 4000000 in
theorem room2_any (n room : Int) (by' : Nat) (w : World) (hz : w.cell? ⟨by', 3, none⟩ = some (.int .i64 room)) :
    Calls Try.prog 60 #[.int .i64 n, .pointer (some ⟨by', 0, none⟩)] w fun e w' => e = .returned (.bool (decide (n ≤ room))) ∧ w = w' := by
  go_enter Try.func60, Try.ntmps60
  go_wp2
  go_ret
  exact ⟨rfl, rfl⟩

set_option maxRecDepth 100000 in
set_option maxHeartbeats 4000000 in
theorem anything_any (n : Int) (w : World) :
    Calls Try.prog 36 #[.int .i64 n] w fun e w' => e = .returned (.bool true) ∧ w = w' := by
  go_enter Try.func36, Try.ntmps36
  go_wp2
  go_ret
  exact ⟨rfl, rfl⟩

theorem results_cel {fn : Func} {p : Tmp} (h : fn.results = #[.cell p 74]) (tmps : Array Value) (w : World) (g o : Nat) {c : List Int} (hp : tmps.getD p undef = .pointer (some ⟨g, o, none⟩)) (hg : CelAt w g o c) :
    (results fn tmps).run Try.prog w = .ok (cellV c) w := by
  have hp' : tmps[p]?.getD undef = .pointer (some ⟨g, o, none⟩) := by simpa using hp
  simp [results, h, hp', asAddr, run_loadVar_cel hg]
theorem cel_of_block {w : World} {b : Nat} {c : List Int} (hl : c.length = 32) (hb : w.heap[b]? = some (.cells (cV c).toArray 74 (0, 0))) : CelAt w b 0 c := by
  refine ⟨hl, fun j hj => ?_, fun k => frozen_of_block hb k⟩
  rw [cell_of_row _ _ _ _ _ _ hb]
  simp [cV, List.getD, List.getElem?_eq_getElem (show j < c.length by omega)]
def zero32 : List Int := List.replicate 32 0
theorem zero32_v : (cV zero32).toArray = #[.int .i64 0, .int .i64 0, .int .i64 0, .int .i64 0, .int .i64 0, .int .i64 0, .int .i64 0, .int .i64 0, .int .i64 0, .int .i64 0, .int .i64 0, .int .i64 0, .int .i64 0, .int .i64 0, .int .i64 0, .int .i64 0, .int .i64 0, .int .i64 0, .int .i64 0, .int .i64 0, .int .i64 0, .int .i64 0, .int .i64 0, .int .i64 0, .int .i64 0, .int .i64 0, .int .i64 0, .int .i64 0, .int .i64 0, .int .i64 0, .int .i64 0, .int .i64 0] := rfl

set_option maxRecDepth 100000 in
set_option maxHeartbeats 4000000 in
theorem later_any (c : List Int) (p : Int → Int) (g : Nat) (lb : Array Value) (eg : ∀ args w, (callFunc g args).run Try.prog w = .ok (.enter g args) w) (w : World) (hl : c.length = 32) (hp : ∀ j, j < 32 → 0 ≤ p (c.getD j 0)) (hp0 : 0 ≤ p 0) (ht : ∀ k, k ≤ 32 → partN p c k ≤ 4611686018427387904)
    (V : ∀ (W : World) (j : Nat), Below w.heap.size w W → j < 32 → Calls Try.prog g (#[.int .i64 (c.getD j 0)] ++ lb) W fun e w' => e = .returned (.int .i64 (p (c.getD j 0))) ∧ W = w') :
    Calls Try.prog 58 #[cellV c, .func (.func g) #[] lb] w fun e w' => e = .returned (cellV (lateF p c)) ∧ Below w.heap.size w w' := by
  obtain ⟨W1, hW1⟩ : ∃ W1, ((w.alloc (.cells (cV c).toArray 74)).alloc (.cells #[.int .i64 0, .int .i64 0, .int .i64 0, .int .i64 0, .int .i64 0, .int .i64 0, .int .i64 0, .int .i64 0, .int .i64 0, .int .i64 0, .int .i64 0, .int .i64 0, .int .i64 0, .int .i64 0, .int .i64 0, .int .i64 0, .int .i64 0, .int .i64 0, .int .i64 0, .int .i64 0, .int .i64 0, .int .i64 0, .int .i64 0, .int .i64 0, .int .i64 0, .int .i64 0, .int .i64 0, .int .i64 0, .int .i64 0, .int .i64 0, .int .i64 0, .int .i64 0] 74)).alloc (.cells #[.int .i64 0, .int .i64 0, .int .i64 0, .int .i64 0, .int .i64 0, .int .i64 0, .int .i64 0, .int .i64 0, .int .i64 0, .int .i64 0, .int .i64 0, .int .i64 0, .int .i64 0, .int .i64 0, .int .i64 0, .int .i64 0, .int .i64 0, .int .i64 0, .int .i64 0, .int .i64 0, .int .i64 0, .int .i64 0, .int .i64 0, .int .i64 0, .int .i64 0, .int .i64 0, .int .i64 0, .int .i64 0, .int .i64 0, .int .i64 0, .int .i64 0, .int .i64 0] 74) = W1 := ⟨_, rfl⟩
  have z0 : W1.heap[w.heap.size]? = some (.cells (cV c).toArray 74 (0, 0)) := by rw [← hW1]; exact alloc_keep (alloc_keep (alloc_at rfl))
  have z1 : W1.heap[w.heap.size + 1]? = some (.cells (cV zero32).toArray 74 (0, 0)) := by rw [← hW1, zero32_v]; exact alloc_keep (alloc_at (by simp))
  have z2 : W1.heap[w.heap.size + 1 + 1]? = some (.cells (cV zero32).toArray 74 (0, 0)) := by rw [← hW1, zero32_v]; exact alloc_at (by simp <;> omega)
  have HC := Lib.hid (cel_of_block hl z0)
  have HZ1 := Lib.hid (cel_of_block rfl z1)
  have HZ2 := Lib.hid (cel_of_block rfl z2)
  have HB := Lib.hid (show Below w.heap.size w W1 by rw [← hW1]; exact ((below_alloc _ _).alloc (by simp) _).alloc (by simp <;> omega) _)
  have HW := Lib.hid hW1
  clear z0 z1 z2 hW1
  have HV := Lib.hid V; clear V
  have HP := Lib.hid hp; clear hp
  have HT := Lib.hid ht; clear ht
  unfold cellV
  go_enter Try.func58, Try.ntmps58
  go_upto_region 2 with (fail)
  rw [HW.out]
  go_wp2_with fail
  go_loopw [7] (fun i wr => ∃ k : Nat, k ≤ 32 ∧ i = .int .i64 k ∧ Hid (CelAt wr w.heap.size 0 c) ∧ Hid (CelAt wr (w.heap.size + 1) 0 zero32) ∧ Hid (CelAt wr (w.heap.size + 1 + 1) 0 (lateN p c k)) ∧ Hid (Below w.heap.size w wr)) (fun i _ => 32 - (intOf i).toNat)
  case atStart => exact ⟨0, Nat.zero_le _, rfl, HC, HZ1, HZ2, HB⟩
  case round =>
    obtain ⟨k, hk, rfl, HCk, HZk, HNk, HBk⟩ := hrel
    by_cases hlt : k < 32
    · obtain ⟨j, hj⟩ : ∃ j, min (k + 1) 31 = j := ⟨_, rfl⟩
      have hj2 : j < 32 := by omega
      have ej : min ((k : Int) + 1) 31 = (j : Int) := by omega
      obtain ⟨x, hx⟩ : ∃ x, c.getD k 0 = x := ⟨_, rfl⟩
      obtain ⟨y, hy⟩ : ∃ y, (lateN p c k).getD j 0 = y := ⟨_, rfl⟩
      have cc := HCk.out.cell k hlt
      have cn := HNk.out.cell j hj2
      rw [hx, Nat.zero_add] at cc
      rw [hy, Nat.zero_add] at cn
      have cf := HNk.out.free j
      have l1 := HCk.out.lt
      have l2 := HNk.out.lt
      have HVk := Lib.hid (fun z => HV.out (gw wr z) k (thru (below_gw wr z) HBk.out) hlt)
      have q0 := HP.out k hlt
      rw [hx] at HVk q0
      have LN := lateN_ok (p := p) (c := c) (fun j => by
        by_cases h : j < 32
        · exact HP.out j h
        · have e : c.getD j 0 = 0 := by rw [List.getD_eq_getElem?_getD, List.getElem?_eq_none (by omega)]; rfl
          rw [e]; exact hp0) k
      have y0 := LN.1.getD j
      have y1 := LN.1.le_tot j
      rw [hy] at y0 y1
      have t1 := HT.out (k + 1) (by omega)
      have e1 : partN p c (k + 1) = partN p c k + p x := by rw [← hx]; rfl
      rw [e1] at t1
      rw [LN.2] at y1
      have hs1 : y + p x ≤ 4611686018427387904 := by omega
      have hw1 : IntKind.i64.wrap ((k : Int) + 1) = (k : Int) + 1 := IntWalk.i64_in _ (by omega)
      have hw2 : IntKind.i64.wrap (y + p x) = y + p x := IntWalk.i64_in _ (by omega)
      have HS := Lib.hid (show lateN p c (k + 1) = (lateN p c k).set j (y + p x) by show (lateN p c k).set (min (k + 1) 31) ((lateN p c k).getD (min (k + 1) 31) 0 + p (c.getD k 0)) = _; rw [hj, hy, hx])
      generalize p x = px at *
      clear LN y1 t1 e1 hx hy hj
      go_wp2_with fail
      refine wp_region_gw_tail 12 (by kernel_rfl) (by kernel_rfl) ?_
      simp only [List.take_succ_cons, List.take_zero]
      repeat (go_big_quiet_step ((go_at_fn g; exact Calls.gw_of_same (HVk.out _))))
      refine wpQuiet_nil ?_
      rintro _ ⟨z, rfl⟩
      simp only [List.drop_succ_cons, List.drop_zero]
      go_wp2_with fail
      go_roundw
      case rel =>
        have HC2 := HCk.out.below (below_gw wr z)
        have HZ2' := HZk.out.below (below_gw wr z)
        have HN2 := (HNk.out.below (below_gw wr z)).set j (y + px) hj2
        have HR2 := Rw.set (gw wr z) (w.heap.size + 1 + 1) 0 j (.int .i64 (y + px)) hj2
        rw [Nat.zero_add] at HN2 HR2
        rw [← HS.out] at HN2
        exact ⟨k + 1, by omega, by go_num, Lib.hid (HC2.other HR2 (by omega)), Lib.hid (HZ2'.other HR2 (by omega)), Lib.hid HN2, Lib.hid ((HBk.out.gw z).grown HR2.g (HBk.out.gw z).size (fun k e => by cases e; omega))⟩
      case measure => simp [intOf]; omega
    · obtain rfl : k = 32 := by omega
      go_wp2_with (first | (refine wpList_load_cel rfl _ rfl _ _ rfl HNk.out ?_) | (refine wpList_store_cel (c := zero32) (c' := lateN p c 32) rfl _ _ rfl _ _ rfl rfl HZk.out (lateN_len _ _ _) ?_))
      obtain ⟨p1, p2⟩ := HZk.out.put (lateN_len p c 32)
      exact bodyPost_ret (v := cellV (lateN p c 32)) (results_cel rfl _ _ _ 0 rfl p1) rfl ⟨rfl, HBk.out.grown p2.g HBk.out.size (fun k e => by cases e; omega)⟩

theorem noPanic_now {Q : Exit → Act → World → Prop} {a : Act} {w : World} (h : Q .normal a w) : noPanic Q .normal a w := h
def firstC (S : Nat → Int) (n : Nat) : List Int := (List.range 32).map fun i => if i < n then S i else 0
theorem firstC_len (S : Nat → Int) (n : Nat) : (firstC S n).length = 32 := by simp [firstC]
theorem firstC_get (S : Nat → Int) (n j : Nat) (hj : j < 32) : (firstC S n).getD j 0 = if j < n then S j else 0 := by
  simp [firstC, List.getD, hj]
theorem cel_part {w : World} {b n : Nat} {S : Nat → Int} (h : CelAt w b 0 zero32) (hn : n ≤ 32) : CelAt (w.setCells b 0 ((List.range n).map fun i => .int .i64 (S i))) b 0 (firstC S n) ∧ Rw w (w.setCells b 0 ((List.range n).map fun i => .int .i64 (S i))) b 0 := by
  refine ⟨⟨firstC_len _ _, fun j hj => ?_, fun k => (World.frozen?_setCells b _ 0 w _).trans (h.free k)⟩, ⟨grownBy_setCells b _ 0 w, fun k hk => World.cell?_setCells_out b _ 0 w _ (fun _ _ => by simp; omega), fun k => World.frozen?_setCells b _ 0 w _⟩⟩
  rw [firstC_get _ _ _ hj]
  by_cases hjn : j < n
  · rw [if_pos hjn]
    have hj' : j < ((List.range n).map fun i => Value.int .i64 (S i)).length := by simpa using hjn
    rw [World.cell?_setCells_in b _ 0 w (fun i hi => by rw [h.cell i (by simp at hi; omega)]; rfl) j hj']
    simp
  · rw [if_neg hjn, World.cell?_setCells_out b _ 0 w _ (fun _ _ => by simp; omega), h.cell j hj]
    unfold zero32
    rw [List.getD_eq_getElem?_getD, List.getElem?_replicate]
    split <;> rfl

set_option maxRecDepth 100000 in
set_option maxHeartbeats 4000000 in
theorem first_any (o : Otl) (w : World) (hI : o.In w) (hn : o.nS ≤ 32) :
    Calls Try.prog 56 #[o.val] w fun e w' => e = .returned (cellV (firstC o.S o.nS)) ∧ Below w.heap.size w w' := by
  unfold Otl.val
  obtain ⟨W1, hW1⟩ : ∃ W1, ((w.alloc (.cells #[.slice o.aS o.nS o.cS, .int .i64 o.kl, .int .i64 o.kh, .slice o.aA o.nA o.cA, .slice o.aP o.nP o.cP] 27)).alloc (.cells #[.int .i64 0, .int .i64 0, .int .i64 0, .int .i64 0, .int .i64 0, .int .i64 0, .int .i64 0, .int .i64 0, .int .i64 0, .int .i64 0, .int .i64 0, .int .i64 0, .int .i64 0, .int .i64 0, .int .i64 0, .int .i64 0, .int .i64 0, .int .i64 0, .int .i64 0, .int .i64 0, .int .i64 0, .int .i64 0, .int .i64 0, .int .i64 0, .int .i64 0, .int .i64 0, .int .i64 0, .int .i64 0, .int .i64 0, .int .i64 0, .int .i64 0, .int .i64 0] 74)).alloc (.cells #[.int .i64 0, .int .i64 0, .int .i64 0, .int .i64 0, .int .i64 0, .int .i64 0, .int .i64 0, .int .i64 0, .int .i64 0, .int .i64 0, .int .i64 0, .int .i64 0, .int .i64 0, .int .i64 0, .int .i64 0, .int .i64 0, .int .i64 0, .int .i64 0, .int .i64 0, .int .i64 0, .int .i64 0, .int .i64 0, .int .i64 0, .int .i64 0, .int .i64 0, .int .i64 0, .int .i64 0, .int .i64 0, .int .i64 0, .int .i64 0, .int .i64 0, .int .i64 0] 74) = W1 := ⟨_, rfl⟩
  have z0 : W1.heap[w.heap.size]? = some (.cells #[.slice o.aS o.nS o.cS, .int .i64 o.kl, .int .i64 o.kh, .slice o.aA o.nA o.cA, .slice o.aP o.nP o.cP] 27 (0, 0)) := by rw [← hW1]; exact alloc_keep (alloc_keep (alloc_at rfl))
  have z1 : W1.heap[w.heap.size + 1]? = some (.cells (cV zero32).toArray 74 (0, 0)) := by rw [← hW1, zero32_v]; exact alloc_keep (alloc_at (by simp))
  have z2 : W1.heap[w.heap.size + 1 + 1]? = some (.cells (cV zero32).toArray 74 (0, 0)) := by rw [← hW1, zero32_v]; exact alloc_at (by simp <;> omega)
  have c0 : W1.cell? ⟨w.heap.size, 0, none⟩ = some (.slice o.aS o.nS o.cS) := cell_of_block z0 0 (by simp)
  have l0 := (Array.getElem?_eq_some_iff.1 z0).1
  have HZ1 := Lib.hid (cel_of_block rfl z1)
  have HZ2 := Lib.hid (cel_of_block rfl z2)
  have HB := Lib.hid (show Below w.heap.size w W1 by rw [← hW1]; exact ((below_alloc _ _).alloc (by simp) _).alloc (by simp <;> omega) _)
  have HW := Lib.hid hW1
  have HS := Lib.hid (hI.iS.below HB.out)
  clear z0 z1 z2 hW1 hI
  have hty : Try.prog.underlying 22 = some (.slice 3) := by kernel_rfl
  have his : (Try.prog.info? 3).map (·.size) = some 1 := by kernel_rfl
  obtain ⟨V, hV⟩ : ∃ V, V = (fun x : Grew => (gw W1 x).setCells (w.heap.size + 1 + 1) 0 ((List.range o.nS).map fun i => .int .i64 (o.S i))) := ⟨_, rfl⟩
  have HCP : Hid (∀ (x : Grew) (ty : TypeId), (Builtin.copy_ #[22, 22] ty #[.slice (some ⟨w.heap.size + 1 + 1, 0, none⟩) 32 32, .slice o.aS o.nS o.cS]).run Try.prog (gw W1 x) = .ok (goInt o.nS) (V x)) := Lib.hid (fun x ty => by
    rcases Nat.eq_zero_or_pos o.nS with h0 | h0
    · rw [h0, hV]
      rw [run_copy_none _ _ _ _ _ _ _ _ _ _ _ hty his (by simp)]
      simp only [h0, List.range_zero, List.map_nil]
      rfl
    · rcases HS.out with h1 | ⟨b, off, ea, lb, hc⟩
      · omega
      · rw [ea, run_copy_cells (gw W1 x) _ _ ty _ (w.heap.size + 1 + 1) 0 32 32 ⟨b, off, none⟩ o.nS o.cS ((List.range o.nS).map fun i => .int .i64 (o.S i)) hty his (by simp [Nat.min_def]; omega) (fun j v hv => ?_) (fun j hj => ?_) (fun j hj => ?_) (fun v hv => ?_), hV]
        · simp
        · have hj : j < o.nS := by have := (List.getElem?_eq_some_iff.1 hv).1; simpa using this
          simp [hj] at hv
          rw [← hv, addr_add, gw_cell lb]
          exact hc j hj
        · rw [((HZ2.out.below (below_gw W1 x)).cell j (by simp at hj; omega))]; rfl
        · exact (HZ2.out.below (below_gw W1 x)).free _
        · simp only [List.mem_map] at hv
          obtain ⟨i, _, rfl⟩ := hv
          rfl)
  clear hty his
  have HVV := Lib.hid hV; clear hV
  go_enter Try.func56, Try.ntmps56
  go_upto_region 2 with (fail)
  rw [HW.out]
  refine wp_region_steps (fun w' => ∃ x, w' = gw W1 x) [([1, 2], 0)] [] [3] (by kernel_rfl) (by kernel_rfl) ?_
  rintro _ ⟨x0, rfl⟩
  refine ⟨⟨_, rfl⟩, ?_⟩
  refine wpSeg_cons ?_
  simp only [pickL, List.getElem?_cons_zero, List.getElem?_cons_succ]
  repeat (go_big_quiet_step (fail))
  refine wpQuiet_nil ?_
  go_wp2_with fail
  refine contQ_now ⟨⟨_, rfl⟩, ?_⟩
  refine wpSeg_nil ?_
  simp only [pickL, List.getElem?_cons_zero, List.getElem?_cons_succ]
  refine wpQuiet_nil ?_
  have P := cel_part (S := o.S) (HZ2.out.below (below_gw W1 x0)) hn
  have e0 : V x0 = (gw W1 x0).setCells (w.heap.size + 1 + 1) 0 ((List.range o.nS).map fun i => .int .i64 (o.S i)) := by rw [HVV.out]
  rw [← e0] at P
  clear e0
  obtain ⟨P1, P2⟩ := P
  have HP1 := Lib.hid P1
  have HB2 := Lib.hid ((HB.out.gw x0).grown P2.g (HB.out.gw x0).size (fun k e => by cases e; omega))
  have HZ3 := Lib.hid ((HZ1.out.below (below_gw W1 x0)).other P2 (by omega))
  clear P1 P2
  have hcp := HCP.out x0
  go_wp2_with fail
  refine noPanic_now ?_
  clear hcp
  go_wp2_with (first | (refine wpList_load_cel rfl _ rfl _ _ rfl HP1.out ?_) | (refine wpList_store_cel (c := zero32) (c' := firstC o.S o.nS) rfl _ _ rfl _ _ rfl rfl HZ3.out (firstC_len _ _) ?_))
  obtain ⟨p1, p2⟩ := HZ3.out.put (firstC_len o.S o.nS)
  exact bodyPost_ret (v := cellV (firstC o.S o.nS)) (results_cel rfl _ _ _ 0 rfl p1) rfl ⟨rfl, HB2.out.grown p2.g HB2.out.size (fun k e => by cases e; omega)⟩
end Go.Proofs.Ytdcpgjepgajioaa
