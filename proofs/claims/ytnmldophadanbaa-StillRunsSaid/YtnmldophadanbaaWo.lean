/- Contracts of sample, Cycle. No conditions beyond each theorem's own. -/
import Derived.Test.YtnmldophadanbaaWn
set_option linter.unusedVariables false
set_option linter.unusedSimpArgs false
set_option linter.unusedSectionVars false
set_option linter.constructorNameAsVariable false
namespace Go.Proofs.Ytnmldophadanbaa
open Go.RowKit

def sampC : Crv := ⟨4, fun i => [0, 1000, 5000, 10000].getD i 0, fun i => [0, 5000, 8000, 10000].getD i 0, fun i => [0, 5200, 8100, 10000].getD i 0⟩
def sampP : Pot3 := ⟨10000, 1000, 1000⟩

def Sampled (w : World) (e : Ending) (w' : World) : Prop :=
  ∃ b bv, e = .returned (.tuple #[.agg #[.slice (some ⟨b, 0, none⟩) 4 4, .slice (some ⟨bv, 0, none⟩) 4 4], .agg #[.int .i64 10000, .int .i64 1000, .int .i64 1000]]) ∧ Pts w' b 0 bv 0 4 sampC.L sampC.A sampC.B ∧ Below w.heap.size w w'

set_option maxHeartbeats 1000000 in
theorem sample_any (w : World) : Calls Try.prog 42 #[] w (Sampled w) := by
  go_enter Try.func42, Try.ntmps42
  go_wp2
  obtain ⟨z0, z1, z2, z3, z4, z5⟩ := five_blocks w (.cells #[.slice (some ⟨w.heap.size + 1 + 1, 0, none⟩) 4 4, .slice (some ⟨w.heap.size + 1 + 1 + 1, 0, none⟩) 4 4] 25) (.cells #[.int .i64 10000, .int .i64 1000, .int .i64 1000] 29) (.cells #[.int .i64 0, .int .i64 1000, .int .i64 5000, .int .i64 10000] 3) (.cells #[.int .i64 0, .int .i64 0, .int .i64 5000, .int .i64 5200, .int .i64 8000, .int .i64 8100, .int .i64 10000, .int .i64 10000] 27)
    (.cells #[.slice (some ⟨w.heap.size + 1 + 1, 0, none⟩) 4 4, .slice (some ⟨w.heap.size + 1 + 1 + 1, 0, none⟩) 4 4] 25)
  refine bodyPost_ret (v := .tuple #[.agg #[.slice (some ⟨w.heap.size + 1 + 1, 0, none⟩) 4 4, .slice (some ⟨w.heap.size + 1 + 1 + 1, 0, none⟩) 4 4], .agg #[.int .i64 10000, .int .i64 1000, .int .i64 1000]]) (by simp [results, Try.results42, go_sem]) rfl ?_
  refine ⟨w.heap.size + 1 + 1, w.heap.size + 1 + 1 + 1, rfl, ⟨by rw [z0]; omega, by rw [z0]; omega, ?_, ?_⟩, ((((((Below.refl _ w).alloc (Nat.le_refl _) _).alloc (by simp) _).alloc (by simp; omega) _).alloc (by simp; omega) _).alloc (by simp; omega) _)⟩
  · intro i hi
    match i, hi with
    | 0, _ => exact cell_of_block z3 0 (by simp)
    | 1, _ => exact cell_of_block z3 1 (by simp)
    | 2, _ => exact cell_of_block z3 2 (by simp)
    | 3, _ => exact cell_of_block z3 3 (by simp)
    | i + 4, h => exact absurd h (by omega)
  · intro i hi
    match i, hi with
    | 0, _ => exact ⟨cell_of_block z4 0 (by simp), cell_of_block z4 1 (by simp)⟩
    | 1, _ => exact ⟨cell_of_block z4 2 (by simp), cell_of_block z4 3 (by simp)⟩
    | 2, _ => exact ⟨cell_of_block z4 4 (by simp), cell_of_block z4 5 (by simp)⟩
    | 3, _ => exact ⟨cell_of_block z4 6 (by simp), cell_of_block z4 7 (by simp)⟩
    | i + 4, h => exact absurd h (by omega)

/-- what returns, from run to run -/
def cycF (F K s : Int) : Nat → Int
  | 0 => s
  | i + 1 => upI ((cycF F K s i + F) * K) 1000
/-- the greatest one before run j -/
def cycM (F K s : Int) : Nat → Int
  | 0 => 0
  | i + 1 => cycF F K s i

theorem cycF_next {F K f : Int} (hf : 0 ≤ f) (hf2 : f ≤ 1073741824) (hF : 0 ≤ F) (hF2 : F ≤ 1073741824) (hK : 0 ≤ K) (hK2 : K ≤ 999) : 0 ≤ (f + F) * K ∧ (f + F) * K ≤ 2147483648 * 999 ∧ 0 ≤ upI ((f + F) * K) 1000 ∧ upI ((f + F) * K) 1000 ≤ 2147483648 := by
  have h0 : 0 ≤ (f + F) * K := Int.mul_nonneg (by omega) hK
  have h1 : (f + F) * K ≤ 2147483648 * 999 := Int.mul_le_mul (by omega) hK2 hK (by omega)
  exact ⟨h0, h1, upI_nonneg h0 (by omega), upI_le (by omega) (by omega)⟩

theorem cyc_bound {F K s l : Int} (hs : 0 ≤ s) (hs2 : s ≤ 1073741824) (hl : l ≤ 1073741824) (hF : 0 ≤ F) (hF2 : F ≤ 1073741824) (hK : 0 ≤ K) (hK2 : K ≤ 999) : ∀ j : Nat, (∀ t, t < j → cycF F K s t ≤ l ∧ cycF F K s t < cycF F K s (t + 1)) →
    0 ≤ cycF F K s j ∧ cycF F K s j ≤ 2147483648 ∧ 0 ≤ cycM F K s j ∧ cycM F K s j ≤ cycF F K s j
  | 0, _ => ⟨hs, by show s ≤ _; omega, Int.le_refl _, hs⟩
  | j + 1, h => by
    have ih := cyc_bound hs hs2 hl hF hF2 hK hK2 j fun t ht => h t (by omega)
    have hj := h j (by omega)
    have := cycF_next ih.1 (by omega) hF hF2 hK hK2
    exact ⟨this.2.2.1, this.2.2.2, ih.1, by show cycF F K s j ≤ cycF F K s (j + 1); omega⟩

attribute [local go_sem] gw_cell gw_frozen gw_size
attribute [local go_sem ↓] run_maxZ

def cycErr (fl fh kl kh s l : Int) : Int := if spanB fl fh 0 1073741824 && spanB kl kh 0 999 then (if inB s 0 1073741824 && inB l 0 1073741824 then 0 else 2) else 1

/-- what Cycle returns at run i -/
def cycRun (F K s l : Int) (i : Nat) : Int := if l < cycF F K s i then i else -1

theorem gw_gw (w : World) (x y : Grew) : ∃ z, gw (gw w x) y = gw w z := ⟨⟨x.bs ++ y.bs, y.d⟩, by simp [gw]⟩

set_option maxRecDepth 100000 in
set_option maxHeartbeats 4000000 in
theorem cycle_ok (fl fh kl kh s l : Int) (w : World) (hE : cycErr fl fh kl kh s l = 0) (i : Nat) (hgo : ∀ j, j < i → cycF fh kh s j ≤ l ∧ cycF fh kh s j < cycF fh kh s (j + 1)) (hend : l < cycF fh kh s i ∨ cycF fh kh s (i + 1) ≤ cycF fh kh s i) :
    Calls Try.prog 21 #[.agg #[.int .i64 fl, .int .i64 fh], .agg #[.int .i64 kl, .int .i64 kh], .int .i64 s, .int .i64 l] w fun e w' =>
      e = .returned (.tuple #[.int .i64 (cycF fh kh s i), .int .i64 (cycRun fh kh s l i), .int .i64 0]) ∧ Below w.heap.size w w' := by
  obtain ⟨a1, a2, a3, a4⟩ : spanB fl fh 0 1073741824 = true ∧ spanB kl kh 0 999 = true ∧ inB s 0 1073741824 = true ∧ inB l 0 1073741824 = true := by
    unfold cycErr at hE
    split at hE
    · rename_i h1
      split at hE
      · rename_i h2
        simp only [Bool.and_eq_true] at h1 h2
        exact ⟨h1.1, h1.2, h2.1, h2.2⟩
      · omega
    · omega
  clear hE
  have b1 := spanB_t.1 a1
  have b2 := spanB_t.1 a2
  have b3 := inB_t.1 a3
  have b4 := inB_t.1 a4
  have A1 := Lib.hid a1; clear a1
  have A2 := Lib.hid a2; clear a2
  have A3 := Lib.hid a3; clear a3
  have A4 := Lib.hid a4; clear a4
  have GO := Lib.hid hgo; clear hgo
  have EN := Lib.hid hend; clear hend
  go_enter Try.func21, Try.ntmps21
  go_wp2_with fail
  refine (Calls.grown (isSpan_b _ _ _ _ _ A1.out)).mono ?_
  rintro e w1 ⟨rfl, x, rfl⟩
  go_wp2_with fail
  refine (Calls.gw_of (isSpan_b _ _ _ _ _ A2.out)).mono ?_
  rintro e w1 ⟨rfl, y, rfl⟩
  go_wp2_with (first | (go_at_call 50; refine (within_b _ _ _ _ A3.out).mono ?_; rintro e w1 ⟨rfl, rfl⟩; clear A3) | (go_at_call 50; refine (within_b _ _ _ _ A4.out).mono ?_; rintro e w1 ⟨rfl, rfl⟩; clear A4))
  go_loop [8, 9, 11] (fun m r f => ∃ j : Nat, j ≤ i ∧ m = .int .i64 (cycM fh kh s j) ∧ r = .int .i64 j ∧ f = .int .i64 (cycF fh kh s j)) (fun _ r _ => i - (intOf r).toNat)
  case atStart => exact ⟨0, Nat.zero_le _, rfl, rfl, rfl⟩
  case round =>
    obtain ⟨j, hj, rfl, rfl, rfl⟩ := hrel
    have bd := cyc_bound (l := l) b3.1 b3.2 b4.2 (by omega : 0 ≤ fh) b1.2.2 (by omega : 0 ≤ kh) b2.2.2 j (fun t ht => GO.out t (by omega))
    have hji : j ≤ 2147483648 := by
      have : ∀ t : Nat, t ≤ j → (t : Int) ≤ cycF fh kh s t := fun t => by
        induction t with
        | zero => intro _; exact b3.1
        | succ t ih => intro ht; have := ih (by omega); have := (GO.out t (by omega)).2; omega
      have := this j (Nat.le_refl _)
      omega
    have e1 : maxZ (cycM fh kh s j) (cycF fh kh s j) = cycF fh kh s j := by rw [maxZ_eq]; omega
    by_cases hlim : cycF fh kh s j ≤ l
    · have nx := cycF_next bd.1 (by omega : cycF fh kh s j ≤ 1073741824) (by omega : 0 ≤ fh) b1.2.2 (by omega : 0 ≤ kh) b2.2.2
      have HU := Lib.hid (show cycF fh kh s (j + 1) = upI ((cycF fh kh s j + fh) * kh) 1000 from rfl)
      have HM := Lib.hid (show cycM fh kh s (j + 1) = cycF fh kh s j from rfl)
      by_cases hji' : j < i
      · have hlt := (GO.out j hji').2
        rw [HU.out] at hlt
        go_wp2_with (go_at_call 51; refine (up_any _ _ _ (by omega) (by omega) (by omega) (by omega)).mono ?_; rintro e w1 ⟨rfl, rfl⟩)
        go_round
        case rel => exact ⟨j + 1, hji', by rw [HM.out], by go_num, by rw [HU.out]⟩
        case measure => simp [intOf]; omega
      · obtain rfl : j = i := by omega
        have hge : upI ((cycF fh kh s j + fh) * kh) 1000 ≤ cycF fh kh s j := by
          rcases EN.out with h | h
          · omega
          · exact h
        have HR := Lib.hid (show cycRun fh kh s l j = -1 by unfold cycRun; rw [if_neg (by omega)])
        go_wp2_with (go_at_call 51; refine (up_any _ _ _ (by omega) (by omega) (by omega) (by omega)).mono ?_; rintro e w1 ⟨rfl, rfl⟩)
        go_ret3
        exact ⟨by rw [HR.out]; rfl, (((Below.refl _ w).alloc (Nat.le_refl _) _).alloc (by simp) _).gw y⟩
    · obtain rfl : j = i := by
        rcases Nat.lt_or_ge j i with h | h
        · have := (GO.out j h).1; omega
        · omega
      have HR := Lib.hid (show cycRun fh kh s l j = j by unfold cycRun; rw [if_pos (by omega)])
      go_wp2_with fail
      go_ret3
      exact ⟨by rw [HR.out]; rfl, (((Below.refl _ w).alloc (Nat.le_refl _) _).alloc (by simp) _).gw y⟩
end Go.Proofs.Ytnmldophadanbaa
