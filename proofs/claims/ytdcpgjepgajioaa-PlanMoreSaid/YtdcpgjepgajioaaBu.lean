/- Contracts of the reference's Sum and Sell. No conditions beyond each theorem's own. -/
import Derived.Test.YtdcpgjepgajioaaBo
set_option linter.unusedVariables false
set_option linter.unusedSimpArgs false
set_option linter.unusedSectionVars false
set_option linter.constructorNameAsVariable false
namespace Go.Proofs.Ytdcpgjepgajioaa
open Go.RowKit

attribute [local go_sem] gw_cell gw_frozen gw_size

attribute [local go_sem ↓] run_minI

set_option maxRecDepth 100000 in
set_option maxHeartbeats 4000000 in
theorem rsum_any (g c0 : Nat) (c : List Int) (w : World) (hC : CelAt w g 0 c) (hn : NonNeg c) (ht : tot c ≤ 4611686018427387904) :
    Calls Try.prog 25 #[.slice (some ⟨g, 0, none⟩) 32 c0] w fun e w' => e = .returned (.int .i64 (tot c)) ∧ w = w' := by
  have HC := Lib.hid hC
  have HT := Lib.hid (fun k => tot_take_le hn k)
  have HP := Lib.hid (fun k => (hn.take k).tot)
  have HS := Lib.hid (fun (k : Nat) (hk : k < 32) => tot_take (c := c) (k := k) (by have := hC.len; omega))
  have HG := Lib.hid (fun k => hn.getD k)
  have HE := Lib.hid (show tot (c.take 32) = tot c by rw [List.take_of_length_le (by have := hC.len; omega)])
  clear hn hC
  go_enter Try.func25, Try.ntmps25
  go_wp2_with fail
  go_loopw [3, 4] (fun n i wr => ∃ k : Nat, k ≤ 32 ∧ n = .int .i64 (tot (c.take k)) ∧ i = .int .i64 (k : Int) ∧ w = wr) (fun _ i _ => 32 - (intOf i).toNat)
  case atStart => exact ⟨0, Nat.zero_le _, rfl, rfl, rfl⟩
  case round =>
    obtain ⟨k, hk, rfl, rfl, hw⟩ := hrel
    subst hw
    by_cases hlt : k < 32
    · have ix := HC.out.cell k hlt
      rw [Nat.zero_add] at ix
      have lg := HC.out.lt
      have h1 := HT.out (k + 1)
      have h2 := HP.out k
      have h3 := HG.out k
      have h4 := HS.out k hlt
      have g1 : tot (c.take k) + c.getD k 0 ≤ 4611686018427387904 := by omega
      clear h1
      obtain ⟨x, hx⟩ : ∃ x, c.getD k 0 = x := ⟨_, rfl⟩
      simp only [hx] at ix h3 g1 h4
      have H4 := Lib.hid h4; clear h4 hx
      go_wp2_with fail
      go_roundw
      case rel => exact ⟨k + 1, by omega, by rw [H4.out], by go_num, by trivial⟩
      case measure => simp [intOf]; omega
    · obtain rfl : k = 32 := by omega
      go_wp2_with fail
      go_ret
      exact ⟨by rw [← HE.out]; rfl, rfl⟩

set_option maxRecDepth 100000 in
set_option maxHeartbeats 4000000 in
theorem rsell_any (g c0 : Nat) (c : List Int) (a : Nat) (n : Int) (w : World) (hC : CelAt w g 0 c) (hn : NonNeg c) (ht : tot c ≤ 4611686018427387904) (ha : a ≤ 31) (h0 : 0 ≤ n) (h1 : n ≤ 1099511627776) :
    Calls Try.prog 26 #[.slice (some ⟨g, 0, none⟩) 32 c0, .int .i64 (a : Int), .int .i64 n] w fun e w' => ∃ b c', e = .returned (.tuple #[.slice (some ⟨b, 0, none⟩) 32 c', .bool (decide ((sellF c a n).2 = 0))]) ∧ CelAt w' b 0 (sellF c a n).1 ∧ w.heap.size ≤ b ∧ Below w.heap.size w w' := by
  have hL := hC.len
  have hI : IntsAt w (some ⟨g, 0, none⟩) 32 (fun j => c.getD j 0) := .inr ⟨g, 0, rfl, hC.lt, fun j hj => hC.cell j hj⟩
  obtain ⟨F1, F2, hF⟩ : ∃ F1 F2, sellF c a n = (F1, F2) := ⟨_, _, rfl⟩
  rw [hF]
  have hinit : ∃ d r : List Int, d.length = a ∧ c = d ++ r ∧ F1 = d ++ (sellL r n).1 ∧ F2 = (sellL r n).2 := by
    refine ⟨c.take a, c.drop a, ?_, (List.take_append_drop a c).symm, ?_, ?_⟩
    · rw [List.length_take, hL]; omega
    · have := congrArg Prod.fst hF; exact this.symm
    · have := congrArg Prod.snd hF; exact this.symm
  have HI := Lib.hid hinit; clear hinit hF
  have HL := Lib.hid hL; clear hL
  have HN := Lib.hid hn; clear hn
  have H := Lib.hid (ints_news (hI.below (below_alloc w (.cells #[] 3)))); clear hI hC
  obtain ⟨j0, jh, jy0, jy1, jy2⟩ := info_parts infoInt
  have JI := Lib.hid jh; have Y0 := Lib.hid jy0; have Y1 := Lib.hid jy1; have Y2 := Lib.hid jy2
  clear jh jy0 jy1 jy2
  have OW : Hid ((w.alloc (.cells #[] 3)).ownsRow w.heap.size 3 1 (.slice (some ⟨w.heap.size, 0, none⟩) 0 0) 0 []) := Lib.hid ⟨rfl, .inr ⟨w.heap.size, 0, #[], rfl, Nat.le_refl _, alloc_at rfl, Nat.le_refl _, Nat.zero_le _, rfl, rfl⟩⟩
  go_enter Try.func26, Try.ntmps26
  go_upto_region 2 with (at_builtin; refine wpList_append_src (by rfl) _ _ 22 rfl w.heap.size 3 j0 (.int .i64 0) 1 8 Try.underlying22 JI.out Y0.out Y1.out Y2.out rfl (by decide) _ 0 [] rfl OW.out (some ⟨g, 0, none⟩) 32 c0 (intsV 32 fun j => c.getD j 0) rfl (intsV_len _ _) H.out (intsV_one _ _) (by unfold maxLen; omega) (by omega) (by simp) ?_; intro v9 w9 hown9 hgrow9)
  rw [Nat.zero_add, List.nil_append] at hown9
  have hfo : ∃ g9 c9, v9 = .slice (some ⟨g9, 0, none⟩) 32 c9 ∧ CelAt w9 g9 0 c ∧ w.heap.size ≤ g9 := by
    rcases hown9.2 with ⟨_, h⟩ | ⟨g9, cap, cur, hv, q1, q2, _⟩
    · omega
    · subst hv
      refine ⟨g9, cap, rfl, ⟨HL.out, fun j hj => ?_, fun k => frozen_of_block q2 k⟩, q1⟩
      have := hown9.cells (g := g9) rfl j (.int .i64 (c.getD j 0)) (by simp [intsV, hj])
      rw [addr_add] at this
      exact this
  obtain ⟨g9, c9, rfl, hc9, hg9⟩ := hfo
  have HC9 := Lib.hid hc9
  have HB9 := Lib.hid ((below_alloc w (.cells #[] 3)).grown hgrow9 (by simp) (fun b hb => by cases hb; exact Nat.le_refl _))
  clear hown9 hgrow9 hc9 OW H
  go_wp2_with fail
  go_loopw [2, 9] (fun m i wr => ∃ (k : Nat) (z : Int) (d r : List Int), k ≤ 32 ∧ 0 ≤ z ∧ z ≤ 1099511627776 ∧ i = .int .i64 (k : Int) ∧ m = .int .i64 z ∧ Hid (d.length = k) ∧ Hid (F1 = d ++ (sellL r z).1 ∧ F2 = (sellL r z).2) ∧ Hid (CelAt wr g9 0 (d ++ r)) ∧ Hid (NonNeg (d ++ r) ∧ tot (d ++ r) ≤ tot c) ∧ Hid (Below w.heap.size w wr)) (fun _ i _ => 32 - (intOf i).toNat)
  case atStart =>
    obtain ⟨d, r, q1, q2, q3, q4⟩ := HI.out
    exact ⟨a, n, d, r, by omega, h0, h1, rfl, rfl, Lib.hid q1, Lib.hid ⟨q3, q4⟩, Lib.hid (q2 ▸ HC9.out), Lib.hid ⟨q2 ▸ HN.out, by rw [← q2]; exact Int.le_refl _⟩, HB9⟩
  case round =>
    obtain ⟨k, z, d, r, hk, z0, z1, rfl, rfl, HD, HF, HCk, HNk, HR⟩ := hrel
    by_cases hlt : k < 32
    · have hr : ∃ x r', r = x :: r' := by
        cases r with
        | nil => have := HCk.out.len; have := HD.out; simp at *; omega
        | cons x r' => exact ⟨x, r', rfl⟩
      obtain ⟨x, r', rfl⟩ := hr
      have ex : (d ++ x :: r').getD k 0 = x := by rw [List.getD_eq_getElem?_getD, List.getElem?_append_right (by have := HD.out; omega), show k - d.length = 0 by have := HD.out; omega]; rfl
      have ce := HCk.out.cell k hlt
      rw [ex, Nat.zero_add] at ce
      have cf := HCk.out.free k
      have x0 := HNk.out.1.getD k
      have x1 := HNk.out.1.le_tot k
      have x2 := HNk.out.2
      rw [ex] at x0 x1
      have x3 : x ≤ 4611686018427387904 := by omega
      have lb := HCk.out.lt
      have m0 : 0 ≤ min x z := by omega
      have m1 : min x z ≤ x := by omega
      have m2 : min x z ≤ z := by omega
      have es : (d ++ x :: r').set k (x - min x z) = (d ++ [x - min x z]) ++ r' := by
        rw [List.set_append_right _ _ (by have := HD.out; omega), show k - d.length = 0 by have := HD.out; omega]
        simp
      have hcs := HCk.out.set k (x - min x z) hlt
      rw [es, Nat.zero_add] at hcs
      have HCs := Lib.hid hcs
      have ES := Lib.hid es
      have EX := Lib.hid ex
      have HRs := Lib.hid (HR.out.setCell (p := ⟨g9, k, none⟩) hg9 (.int .i64 (x - min x z)))
      have hw1 : IntKind.i64.wrap (x - min x z) = x - min x z := IntWalk.i64_in _ (by omega)
      clear ex es x1 x2 hcs
      go_wp2_with fail
      go_roundw
      case rel =>
        refine ⟨k + 1, z - min x z, d ++ [x - min x z], r', by omega, by omega, by omega, by go_num, rfl, Lib.hid (by simp [HD.out]), Lib.hid ?_, HCs, Lib.hid ?_, HRs⟩
        · obtain ⟨q1, q2⟩ := HF.out
          exact ⟨by rw [q1, List.append_assoc]; rfl, q2⟩
        · rw [← ES.out]
          have hlen := HCk.out.len
          refine ⟨HNk.out.1.set k (by omega), ?_⟩
          rw [tot_set k _ (by omega), EX.out]
          have := HNk.out.2
          omega
      case measure => simp [intOf]; omega
    · obtain rfl : k = 32 := by omega
      have hr : r = [] := by
        have := HCk.out.len
        rw [List.length_append, HD.out] at this
        exact List.eq_nil_of_length_eq_zero (by omega)
      subst hr
      have hd : decide (F2 = 0) = (z == 0) := by rw [HF.out.2]; show decide (z = 0) = _; by_cases h : z = 0 <;> simp [h]
      have HDD := Lib.hid hd; clear hd
      have HQ : Hid (F1 = d) := Lib.hid (by rw [HF.out.1]; simp [sellL])
      go_wp2_with fail
      go_ret2
      exact ⟨g9, c9, by rw [HDD.out]; rfl, by rw [HQ.out]; simpa using HCk.out, hg9, HR.out⟩
end Go.Proofs.Ytdcpgjepgajioaa
