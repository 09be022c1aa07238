/- Contracts of total and sell. No conditions beyond each theorem's own. -/
import Derived.Test.YtdcpgjepgajioaaBe
set_option linter.unusedVariables false
set_option linter.unusedSimpArgs false
set_option linter.unusedSectionVars false
set_option linter.constructorNameAsVariable false
namespace Go.Proofs.Ytdcpgjepgajioaa
open Go.RowKit

attribute [local go_sem] gw_cell gw_frozen gw_size

theorem run_minI {P : Program} (w : World) (ts : Array TypeId) (t : TypeId) (k k' : IntKind) (x y : Int) : (Builtin.min_ ts t #[.int k x, .int k' y]).run P w = .ok (.int k (min x y)) w := by rw [run_minZ, minZ_eq]
attribute [local go_sem ↓] run_minI

theorem cel_alloc {w : World} {c : List Int} (hl : c.length = 32) : CelAt (w.alloc (.cells (cV c).toArray 74)) w.heap.size 0 c := by
  have hb := World.alloc_heap_new w (.cells (cV c).toArray 74)
  refine ⟨hl, fun j hj => ?_, fun k => frozen_of_block hb k⟩
  rw [cell_of_row _ _ _ _ _ _ hb]
  simp [cV, List.getD, List.getElem?_eq_getElem (show j < c.length by omega)]
theorem CelAt.drew {w : World} {b o : Nat} {c : List Int} (h : CelAt w b o c) : CelAt w.drew b o c := h.below (Below.refl _ _).drew
theorem Rw.drew {w w' : World} {b o : Nat} (h : Rw w w' b o) : Rw w w'.drew b o := ⟨grownBy_trans h.g (grownBy_of_below (Below.refl _ w').drew _), h.out, h.free⟩
set_option maxRecDepth 100000 in
set_option maxHeartbeats 4000000 in
theorem total_any (c : List Int) (w : World) (hl : c.length = 32) (hn : NonNeg c) (ht : tot c ≤ 4611686018427387904) :
    Calls Try.prog 71 #[cellV c] w fun e w' => e = .returned (.int .i64 (tot c)) ∧ Below w.heap.size w w' := by
  obtain ⟨W1, hW1⟩ : ∃ W1, w.alloc (.cells (cV c).toArray 74) = W1 := ⟨_, rfl⟩
  have HC := Lib.hid (show CelAt W1 w.heap.size 0 c by rw [← hW1]; exact cel_alloc hl)
  have HB := Lib.hid (show Below w.heap.size w W1 by rw [← hW1]; exact below_alloc _ _)
  have HW := Lib.hid hW1; clear hW1
  have IX := Lib.hid (fun (k : Nat) (hk : k < 32) (w : World) => run_index_cel hl k hk w)
  have HT := Lib.hid (fun k => tot_take_le hn k)
  have HP := Lib.hid (fun k => (hn.take k).tot)
  have HS := Lib.hid (fun (k : Nat) (hk : k < 32) => tot_take (c := c) (k := k) (by omega))
  have HG := Lib.hid (fun k => hn.getD k)
  have HE := Lib.hid (show tot (c.take 32) = tot c by rw [List.take_of_length_le (by omega)])
  clear hl hn
  unfold cellV
  go_enter Try.func71, Try.ntmps71
  go_upto_region 1 with (fail)
  rw [HW.out]
  go_upto_region 2 with (fail)
  go_wp2_with (refine wpList_load_cel rfl _ rfl _ _ rfl HC.out ?_)
  go_loop [3, 7] (fun n i => ∃ k : Nat, k ≤ 32 ∧ n = .int .i64 (tot (c.take k)) ∧ i = .int .i64 k) (fun n i => 32 - (intOf i).toNat)
  case atStart => exact ⟨0, Nat.zero_le _, rfl, rfl⟩
  case round =>
    obtain ⟨k, hk, rfl, rfl⟩ := hrel
    by_cases hlt : k < 32
    · have ix := IX.out k hlt
      have h1 := HT.out (k + 1)
      have h2 := HP.out k
      have h3 := HG.out k
      have h4 := HS.out k hlt
      have g1 : tot (c.take k) + c.getD k 0 ≤ 4611686018427387904 := by omega
      clear h1
      obtain ⟨x, hx⟩ : ∃ x, c.getD k 0 = x := ⟨_, rfl⟩
      simp only [hx] at ix h3 g1 h4
      have H4 := Lib.hid h4; clear h4 hx
      go_wp2_with fail
      go_round
      case rel => exact ⟨k + 1, by omega, by rw [H4.out], by go_num⟩
      case measure => simp [intOf]; omega
    · obtain rfl : k = 32 := by omega
      go_wp2_with fail
      go_ret
      exact ⟨by rw [← HE.out]; rfl, HB.out⟩

set_option maxRecDepth 100000 in
set_option maxHeartbeats 4000000 in
theorem sell_any (c : List Int) (b o a : Nat) (n : Int) (w : World) (hC : CelAt w b o c) (hn : NonNeg c) (ht : tot c ≤ 4611686018427387904) (ha : a ≤ 31) (h0 : 0 ≤ n) (h1 : n ≤ 1099511627776) :
    Calls Try.prog 72 #[.pointer (some ⟨b, o, none⟩), .int .i64 (a : Int), .int .i64 n] w fun e w' => e = .returned (.bool (decide ((sellF c a n).2 = 0))) ∧ CelAt w' b o (sellF c a n).1 ∧ Rw w w' b o := by
  have HL := Lib.hid hC.len
  obtain ⟨F1, F2, hF⟩ : ∃ F1 F2, sellF c a n = (F1, F2) := ⟨_, _, rfl⟩
  rw [hF]
  have hinit : ∃ d r : List Int, d.length = a ∧ c = d ++ r ∧ F1 = d ++ (sellL r n).1 ∧ F2 = (sellL r n).2 := by
    refine ⟨c.take a, c.drop a, ?_, (List.take_append_drop a c).symm, ?_, ?_⟩
    · rw [List.length_take, HL.out]; omega
    · have := congrArg Prod.fst hF; exact this.symm
    · have := congrArg Prod.snd hF; exact this.symm
  have HI := Lib.hid hinit; clear hinit hF
  have HC := Lib.hid hC; clear hC
  have HN := Lib.hid hn; clear hn
  go_enter Try.func72, Try.ntmps72
  go_wp2_with fail
  go_loopw [7, 2] (fun i m wr => ∃ (k : Nat) (z : Int) (d r : List Int), k ≤ 32 ∧ 0 ≤ z ∧ z ≤ 1099511627776 ∧ i = .int .i64 k ∧ m = .int .i64 z ∧ Hid (d.length = k) ∧ Hid (F1 = d ++ (sellL r z).1 ∧ F2 = (sellL r z).2) ∧ Hid (CelAt wr b o (d ++ r)) ∧ Hid (NonNeg (d ++ r) ∧ tot (d ++ r) ≤ tot c) ∧ Hid (w = wr ∨ Rw w wr b o)) (fun i _ _ => 32 - (intOf i).toNat)
  case atStart =>
    obtain ⟨d, r, q1, q2, q3, q4⟩ := HI.out
    exact ⟨a, n, d, r, by omega, h0, h1, rfl, rfl, Lib.hid q1, Lib.hid ⟨q3, q4⟩, Lib.hid (q2 ▸ HC.out), Lib.hid ⟨q2 ▸ HN.out, by rw [← q2]; exact Int.le_refl _⟩, Lib.hid (.inl rfl)⟩
  case round =>
    obtain ⟨k, z, d, r, hk, z0, z1, rfl, rfl, HD, HF, HCk, HNk, HR⟩ := hrel
    by_cases hlt : k < 32
    · by_cases hz : 0 < z
      · have hr : ∃ x r', r = x :: r' := by
          cases r with
          | nil => have := HCk.out.len; have := HD.out; simp at *; omega
          | cons x r' => exact ⟨x, r', rfl⟩
        obtain ⟨x, r', rfl⟩ := hr
        have ex : (d ++ x :: r').getD k 0 = x := by rw [List.getD_eq_getElem?_getD, List.getElem?_append_right (by have := HD.out; omega), show k - d.length = 0 by have := HD.out; omega]; rfl
        have ce := HCk.out.cell k hlt
        rw [ex] at ce
        have cf := HCk.out.free (o + k)
        have x0 := HNk.out.1.getD k
        have x1 := HNk.out.1.le_tot k
        have x2 := HNk.out.2
        rw [ex] at x0 x1
        have x3 : x ≤ 4611686018427387904 := by omega
        have lb := HCk.out.lt
        have m0 : 0 ≤ min x z := by omega
        have m1 : min x z ≤ x := by omega
        have m2 : min x z ≤ z := by omega
        have es : (d ++ x :: r').set k (x - min x z) = (d ++ [x - min x z]) ++ r' := by
          rw [List.set_append_right _ _ (by have := HD.out; omega), show k - d.length = 0 by have := HD.out; omega]
          simp
        have HCs := Lib.hid (HCk.out.set k (x - min x z) hlt)
        rw [es] at HCs
        have ES := Lib.hid es
        have EX := Lib.hid ex
        have HRs := Lib.hid (Rw.set wr b o k (.int .i64 (x - min x z)) hlt)
        have hw1 : IntKind.i64.wrap (x - min x z) = x - min x z := IntWalk.i64_in _ (by omega)
        clear ex es x1 x2
        go_wp2_with fail
        go_region
        go_wp2_with fail
        go_roundw
        case rel =>
          refine ⟨k + 1, z - min x z, d ++ [x - min x z], r', by omega, by omega, by omega, by go_num, rfl, Lib.hid (by simp [HD.out]), Lib.hid ?_, Lib.hid HCs.out.drew, Lib.hid ?_, Lib.hid ?_⟩
          · obtain ⟨q1, q2⟩ := HF.out
            exact ⟨by rw [q1, List.append_assoc]; rfl, q2⟩
          · rw [← ES.out]
            have hlen := HCk.out.len
            refine ⟨HNk.out.1.set k (by omega), ?_⟩
            rw [tot_set k _ (by omega), EX.out]
            have := HNk.out.2
            omega
          · rcases HR.out with rfl | h
            · exact .inr HRs.out.drew
            · exact .inr (h.trans HRs.out.drew)
        case measure => simp [intOf]; omega
      · obtain rfl : z = 0 := by omega
        obtain ⟨q1, q2⟩ := HF.out
        rw [sellL_zero (fun y hy => HNk.out.1 y (by simp [hy]))] at q1 q2
        have hd : decide (F2 = 0) = true := by rw [q2]; rfl
        have HQ := Lib.hid (And.intro q1 q2)
        clear q1 q2
        have HDD := Lib.hid hd; clear hd hz
        go_wp2_with fail
        go_ret
        exact ⟨by rw [HDD.out]; rfl, by rw [HQ.out.1]; exact HCk.out, (by rcases HR.out with rfl | h; exact Rw.of_below (Below.refl _ _) HC.out.lt; exact h)⟩
    · obtain rfl : k = 32 := by omega
      have hr : r = [] := by
        have := HCk.out.len
        rw [List.length_append, HD.out] at this
        exact List.eq_nil_of_length_eq_zero (by omega)
      subst hr
      have hd : decide (F2 = 0) = (z == 0) := by rw [HF.out.2]; show decide (z = 0) = _; by_cases h : z = 0 <;> simp [h]
      have HDD := Lib.hid hd; clear hd
      go_wp2_with fail
      go_ret
      exact ⟨by rw [HDD.out]; rfl, by rw [HF.out.1]; exact HCk.out, (by rcases HR.out with rfl | h; exact Rw.of_below (Below.refl _ _) HC.out.lt; exact h)⟩
end Go.Proofs.Ytdcpgjepgajioaa
