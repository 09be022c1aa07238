/- Contracts of sort.Search over a predicate that rises, and of place. No conditions beyond each theorem's own. -/
import Derived.Test.YtohcopdfdmjhnaaSa
import Derived.Shelf.Abstract
set_option linter.unusedVariables false
set_option linter.unusedSimpArgs false
set_option linter.unusedSectionVars false
set_option linter.constructorNameAsVariable false
namespace Go.Proofs.Ytohcopdfdmjhnaa.L1
open Go.RowKit
open Go.Proofs.Ytohcopdfdmjhnaa

attribute [local go_sem] gw_cell gw_frozen gw_size

set_option maxRecDepth 100000 in
set_option maxHeartbeats 1000000 in
theorem search_any (g : Nat) (lb : Array Value) (eg : ∀ args w, (callFunc g args).run Try.prog w = .ok (.enter g args) w) (p : Nat → Bool) (n : Nat) (hn : n ≤ 1000000) (mono : ∀ i j, i ≤ j → j < n → p i = true → p j = true) (w : World)
    (V : ∀ (W : World) (v : Nat), Below w.heap.size w W → v < n → Calls Try.prog g (#[.int .i64 v] ++ lb) W fun e w' => e = .returned (.bool (p v)) ∧ Below W.heap.size W w') :
    Calls Try.prog 51 #[.int .i64 n, .func (.func g) #[] lb] w fun e w' => e = .returned (.int .i64 (okN (fun i => !p i) n)) ∧ Below w.heap.size w w' := by
  have HV := Lib.hid V; clear V
  have HM := Lib.hid mono; clear mono
  go_enter Try.func51, Try.ntmps51
  go_wp2
  go_loopw [5, 6] (fun s t wr => ∃ i j : Nat, i ≤ j ∧ j ≤ n ∧ s = .int .i64 i ∧ t = .int .i64 j ∧ Hid (Below w.heap.size w wr) ∧ Hid (∀ t, t < i → (!p t) = true) ∧ Hid (j < n → (!p j) = false)) (fun s t _ => (intOf t - intOf s).toNat)
  case atStart => exact ⟨0, n, Nat.zero_le _, Nat.le_refl _, rfl, rfl, Lib.hid (Below.refl _ _), Lib.hid (fun _ h => by omega), Lib.hid (fun h => by omega)⟩
  case round =>
    obtain ⟨i, j, hij, hjn, rfl, rfl, HB, K1, K2⟩ := hrel
    by_cases hlt : i < j
    · have VM := HV.out wr ((i + j) / 2) HB.out (by omega)
      cases hx : p ((i + j) / 2) with
      | false =>
        rw [hx] at VM
        have HX := Lib.hid hx; clear hx
        go_wp2_with (go_at_fn g; refine VM.mono ?_; rintro e w' ⟨rfl, hb⟩)
        go_roundw
        case rel =>
          refine ⟨(i + j) / 2 + 1, j, by omega, by omega, by go_num, rfl, Lib.hid (thru hb HB.out), Lib.hid (fun t ht => ?_), K2⟩
          cases hy : p t with
          | false => rfl
          | true =>
            have := HM.out t ((i + j) / 2) (by omega) (by omega) hy
            rw [HX.out] at this
            cases this
        case measure => simp [intOf]; omega
      | true =>
        rw [hx] at VM
        have HX := Lib.hid hx; clear hx
        go_wp2_with (go_at_fn g; refine VM.mono ?_; rintro e w' ⟨rfl, hb⟩)
        go_roundw
        case rel => exact ⟨i, (i + j) / 2, by omega, by omega, rfl, by go_num, Lib.hid (thru hb HB.out), K1, Lib.hid (fun _ => by rw [HX.out]; rfl)⟩
        case measure => simp [intOf]; omega
    · obtain rfl : i = j := by omega
      have HI := Lib.hid (okN_unique (p := fun i => !p i) hjn K1.out K2.out)
      go_wp2
      go_ret
      exact ⟨by rw [← HI.out]; rfl, HB.out⟩

theorem okN_place (L : Nat → Int) (x : Int) (m : Nat) : okN (fun i => !decide (x < L (i + 1))) m = lb (fun i => L (i + 1)) (x + 1) m := by
  refine (okN_unique (lb_le _ _ _) (fun t ht => ?_) (fun h => ?_)).symm
  · have := lb_lt _ _ _ t ht
    simp only [Bool.not_eq_true', decide_eq_false_iff_not]; omega
  · have := lb_stop _ _ _ h
    simp only [Bool.not_eq_false', decide_eq_true_eq]; omega

set_option maxHeartbeats 1000000 in
theorem place1_any (bl bx b off n c v : Nat) (L : Nat → Int) (x : Int) (w : World) (h1 : w.cell? ⟨bl, 0, none⟩ = some (.slice (some ⟨b, off, none⟩) n c)) (h2 : w.cell? ⟨bx, 0, none⟩ = some (.int .i64 x))
    (hc : ∀ i, i < n → w.cell? ⟨b, off + i, none⟩ = some (.int .i64 (L i))) (hv : v + 1 < n) (hn : n ≤ 1000000) :
    Calls Try.prog 102 #[.int .i64 v, .pointer (some ⟨bl, 0, none⟩), .pointer (some ⟨bx, 0, none⟩)] w fun e w' => e = .returned (.bool (decide (x < L (v + 1)))) ∧ Below w.heap.size w w' := by
  have lbl := World.block_lt_of_cell? w _ h1
  have lbx := World.block_lt_of_cell? w _ h2
  have c1 := hc (v + 1) hv
  have lb1 := World.block_lt_of_cell? w _ c1
  dsimp only at lbl lbx lb1
  have hi1 : ((v : Int) + 1).toNat = v + 1 := by omega
  clear hc
  generalize L (v + 1) = y at *
  go_enter Try.func102, Try.ntmps102
  go_upto_region 1 with (fail)
  refine wp_region_gw (by kernel_rfl) (by kernel_rfl) ?_
  repeat (go_big_quiet_step (fail))
  refine wpQuiet_nil ?_
  rintro _ ⟨z, rfl⟩
  go_wp2_with fail
  go_ret
  exact ⟨rfl, below_gw w z⟩

set_option maxRecDepth 100000 in
set_option maxHeartbeats 1000000 in
theorem place_any (b off n c : Nat) (L : Nat → Int) (x : Int) (w : World) (hb : b < w.heap.size) (hc : ∀ i, i < n → w.cell? ⟨b, off + i, none⟩ = some (.int .i64 (L i))) (h2 : 2 ≤ n) (hn : n ≤ 1000000) (hr : Rises L n) :
    Calls Try.prog 97 #[.slice (some ⟨b, off, none⟩) n c, .int .i64 x] w fun e w' => e = .returned (.int .i64 (plV L n x)) ∧ Below w.heap.size w w' := by
  obtain ⟨W1, hW1⟩ : ∃ W1, (w.alloc (.cells #[.slice (some ⟨b, off, none⟩) n c] 22)).alloc (.cells #[.int .i64 x] 3) = W1 := ⟨_, rfl⟩
  have hBc : Below w.heap.size w W1 := by rw [← hW1]; exact (below_alloc _ _).alloc (by simp) _
  have zc0 : W1.heap[w.heap.size]? = some (.cells #[.slice (some ⟨b, off, none⟩) n c] 22 (0, 0)) := by rw [← hW1]; exact alloc_keep (alloc_at rfl)
  have zc1 : W1.heap[w.heap.size + 1]? = some (.cells #[.int .i64 x] 3 (0, 0)) := by rw [← hW1]; exact alloc_at (by simp)
  have c00 : W1.cell? ⟨w.heap.size, 0, none⟩ = some (.slice (some ⟨b, off, none⟩) n c) := cell_of_block zc0 0 (by simp)
  have c10 : W1.cell? ⟨w.heap.size + 1, 0, none⟩ = some (.int .i64 x) := cell_of_block zc1 0 (by simp)
  have lc0 := (Array.getElem?_eq_some_iff.1 zc0).1
  have lc1 := (Array.getElem?_eq_some_iff.1 zc1).1
  clear zc0 zc1
  have HBc := Lib.hid hBc; clear hBc
  have HWc := Lib.hid hW1; clear hW1
  have hmf : ∀ (fn : Fn) (first cap : Array Value) (w : World), (Instr.makeFunc fn first cap).run Try.prog w = .ok (.func fn first cap) w := fun _ _ _ _ => rfl
  have S := search_any 102 #[.pointer (some ⟨w.heap.size, 0, none⟩), .pointer (some ⟨w.heap.size + 1, 0, none⟩)] (enters_of Try.func102 (by kernel_rfl) rfl) (fun i => decide (x < L (i + 1))) (n - 2) (by omega)
    (fun i j hij hj h => by
      have := hr.le (i + 1) (j + 1) (by omega) (by omega)
      simp only [decide_eq_true_eq] at h ⊢
      omega) W1
    (fun W v hbw hv => place1_any w.heap.size (w.heap.size + 1) b off n c v L x W (below_cell hbw c00) (below_cell hbw c10) (fun i hi => below_cell hbw (below_cell HBc.out (hc i hi))) (by omega) hn)
  rw [okN_place] at S
  have e : ((n - 2 : Nat) : Int) = (n : Int) - 2 := by omega
  rw [e] at S
  have HS := Lib.hid S
  have HL := Lib.hid (show plV L n x = lb (fun i => L (i + 1)) (x + 1) (n - 2) from rfl)
  rw [HL.out]
  generalize lb (fun i => L (i + 1)) (x + 1) (n - 2) = q at *
  clear S HL hc hr e
  go_enter Try.func97, Try.ntmps97
  go_upto_region 1 with (fail)
  rw [HWc.out]
  go_wp2_with (go_at_call 51; refine HS.out.mono ?_; rintro e w' ⟨rfl, hb2⟩)
  go_ret
  exact ⟨rfl, thru hb2 HBc.out⟩

set_option maxRecDepth 100000 in
set_option maxHeartbeats 1000000 in
theorem rplace_any (b off n c : Nat) (L : Nat → Int) (x : Int) (w : World) (hc : ∀ i, i < n → w.cell? ⟨b, off + i, none⟩ = some (.int .i64 (L i))) (h2 : 2 ≤ n) (hn : n ≤ 1000000) :
    Calls Try.prog 74 #[.slice (some ⟨b, off, none⟩) n c, .int .i64 x] w fun e w' => e = .returned (.int .i64 (plV L n x)) ∧ w = w' := by
  have HC := Lib.hid hc; clear hc
  go_enter Try.func74, Try.ntmps74
  go_wp2
  go_loop [5] (fun s => ∃ i : Nat, i ≤ n - 2 ∧ s = .int .i64 i ∧ Hid (∀ t, t < i → L (t + 1) < x + 1)) (fun s => n - (intOf s).toNat)
  case atStart => exact ⟨0, Nat.zero_le _, rfl, Lib.hid (fun _ h => by omega)⟩
  case round =>
    obtain ⟨i, hi, rfl, K⟩ := hrel
    by_cases hlt : i + 2 < n
    · have c1 := HC.out (i + 1) (by omega)
      have hi1 : ((i : Int) + 1).toNat = i + 1 := by omega
      obtain ⟨y, hy⟩ : ∃ y, L (i + 1) = y := ⟨_, rfl⟩
      rw [hy] at c1
      have HY := Lib.hid hy; clear hy
      by_cases hle : y ≤ x
      · go_wp2
        go_round
        case rel => exact ⟨i + 1, by omega, by go_num, Lib.hid (all_succ K.out (by rw [HY.out]; omega))⟩
        case measure => simp [intOf]; omega
      · have HP := Lib.hid (show plV L n x = i from (lb_unique (by omega) K.out (fun _ => by rw [HY.out]; omega)).symm)
        go_wp2
        go_ret
        exact ⟨by rw [HP.out]; rfl, rfl⟩
    · have HP := Lib.hid (show plV L n x = i from (lb_unique (by omega) K.out (fun h => by omega)).symm)
      go_wp2
      go_ret
      exact ⟨by rw [HP.out]; rfl, rfl⟩
end Go.Proofs.Ytohcopdfdmjhnaa.L1
