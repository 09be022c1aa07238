/- Contracts of slices.BinarySearch over a rising list, of slices.IndexFunc and ContainsFunc over spans, of areCoolings. No conditions beyond each theorem's own. -/
import Derived.Test.YtfefmgadfklgmaaBz
import Derived.Test.YtfefmgadfklgmaaAl
set_option linter.unusedVariables false
set_option linter.unusedSimpArgs false
set_option linter.unusedSectionVars false
set_option linter.constructorNameAsVariable false
namespace Go.Proofs.Ytfefmgadfklgmaa
open Go.RowKit

set_option maxHeartbeats 400000 in
theorem less_any (a b : Int) (w : World) :
    Calls Try.prog 81 #[.int .i64 a, .int .i64 b] w fun e w' => e = .returned (.bool (decide (a < b))) ∧ w = w' := by
  have hn : (a != a) = false := by simp
  go_enter Try.func81, Try.ntmps81
  go_wp2
  go_ret
  exact ⟨rfl, rfl⟩
theorem less_b {c : Bool} (a b : Int) (w : World) (h : decide (a < b) = c) :
    Calls Try.prog 81 #[.int .i64 a, .int .i64 b] w fun e w' => e = .returned (.bool c) ∧ w = w' := h ▸ less_any a b w

set_option maxRecDepth 100000 in
set_option maxHeartbeats 1000000 in
theorem search_any (b off n c : Nat) (x : Int) (L : Nat → Int) (w : World) (hn : n ≤ 1000000000000)
    (hc : ∀ i, i < n → w.cell? ⟨b, off + i, none⟩ = some (.int .i64 (L i))) (hmon : ∀ s t, s ≤ t → t < n → L s ≤ L t) :
    Calls Try.prog 77 #[.slice (some ⟨b, off, none⟩) n c, .int .i64 x] w fun e w' => e = .returned (.tuple #[.int .i64 (lb L x n), .bool (foundB L x n)]) ∧ w = w' := by
  have HC := Lib.hid hc; clear hc
  have HM := Lib.hid hmon; clear hmon
  go_enter Try.func77, Try.ntmps77
  go_wp2
  go_loop [7, 8] (fun p q => ∃ i j : Nat, i ≤ j ∧ j ≤ n ∧ p = .int .i64 i ∧ q = .int .i64 j ∧ (∀ t, t < i → L t < x) ∧ (j < n → x ≤ L j)) (fun p q => (intOf q - intOf p).toNat)
  case atStart => exact ⟨0, n, Nat.zero_le _, Nat.le_refl _, rfl, rfl, fun _ h => by omega, fun h => by omega⟩
  case round =>
    obtain ⟨i, j, hij, hjn, rfl, rfl, h1, h2⟩ := hrel
    have K1 := Lib.hid h1; clear h1
    have K2 := Lib.hid h2; clear h2
    by_cases hlt : i < j
    · have cm := HC.out ((i + j) / 2) (by omega)
      cases hx : decide (L ((i + j) / 2) < x) with
      | true =>
        have HX := Lib.hid hx; clear hx
        go_wp2_with (go_at_call 81; refine (less_b _ _ _ HX.out).mono ?_; rintro e w' ⟨rfl, rfl⟩)
        go_round
        case rel => exact ⟨(i + j) / 2 + 1, j, by omega, by omega, by go_num, rfl, fun t ht => Int.lt_of_le_of_lt (HM.out t ((i + j) / 2) (by omega) (by omega)) (of_decide_eq_true HX.out), K2.out⟩
        case measure => simp [intOf]; omega
      | false =>
        have HX := Lib.hid hx; clear hx
        go_wp2_with (go_at_call 81; refine (less_b _ _ _ HX.out).mono ?_; rintro e w' ⟨rfl, rfl⟩)
        go_round
        case rel => exact ⟨i, (i + j) / 2, by omega, by omega, rfl, by go_num, K1.out, fun _ => Int.not_lt.1 (of_decide_eq_false HX.out)⟩
        case measure => simp [intOf]; omega
    · obtain rfl : i = j := by omega
      have HI := Lib.hid (lb_unique hjn K1.out (fun h => Int.not_lt.2 (K2.out h)))
      by_cases hin : i < n
      · have ci := HC.out i hin
        by_cases hx : L i = x
        · have HF := Lib.hid (show foundB L x n = true by unfold foundB; rw [← HI.out]; simp [hin, hx])
          have hx' : ((L i) == x) = true := by simp [hx]
          clear hx
          go_wp2
          go_ret2
          exact ⟨by rw [HF.out, ← HI.out]; rfl, rfl⟩
        · have HF := Lib.hid (show foundB L x n = false by unfold foundB; rw [← HI.out]; simp [hx])
          have hx' : ((L i) == x) = false := by simp [hx]
          have hn1 : ((L i) != (L i)) = false := by simp
          clear hx
          go_wp2
          go_ret2
          exact ⟨by rw [HF.out, ← HI.out]; rfl, rfl⟩
      · have HF := Lib.hid (show foundB L x n = false by unfold foundB; rw [← HI.out]; simp [hin])
        go_wp2
        go_ret2
        exact ⟨by rw [HF.out, ← HI.out]; rfl, rfl⟩

def allB (n : Nat) (p : Nat → Bool) : Bool := (List.range n).all p
theorem allB_t {n : Nat} {p : Nat → Bool} : allB n p = true ↔ ∀ i, i < n → p i = true := by simp [allB]
theorem allB_f {n j : Nat} {p : Nat → Bool} (hj : j < n) (h : p j = false) : allB n p = false := by
  cases e : allB n p with
  | false => rfl
  | true => rw [allB_t.1 e j hj] at h; cases h
/-- an ending of IndexFunc: p: what is not looked for -/
def IxEnd (p : Nat → Bool) (n : Nat) (e : Ending) : Prop := (allB n p = true ∧ e = .returned (.int .i64 (-1))) ∨ ∃ j : Nat, j < n ∧ allB n p = false ∧ e = .returned (.int .i64 j)

/-- a span of a list is within 0 and a number -/
def inSp (hi : Int) (A B : Nat → Int) (i : Nat) : Bool := spanB (A i) (B i) 0 hi

attribute [local go_sem] gw_cell gw_frozen gw_size

set_option maxHeartbeats 1000000 in
theorem notRate (lo hi : Int) (w : World) :
    Calls Try.prog 48 #[.agg #[.int .i64 lo, .int .i64 hi]] w fun e w' => e = .returned (.bool (!spanB lo hi 0 1000)) ∧ Below w.heap.size w w' := by
  cases h : spanB lo hi 0 1000
  all_goals
    have H := Lib.hid h; clear h
    go_enter Try.func48, Try.ntmps48
    go_wp2_with fail
    refine (Calls.grown (sin_b _ _ _ _ _ H.out)).mono ?_
    rintro e w1 ⟨rfl, x, rfl⟩
    go_wp2_with fail
    go_ret
    exact ⟨rfl, RowKit.Below.gw (below_alloc _ _) x⟩

set_option maxHeartbeats 1000000 in
theorem ixRate (a : Option Addr) (n c : Nat) (A B : Nat → Int) (w : World) (hn : n ≤ 9223372036854775807) (hS : SpansAt w a n A B) :
    Calls Try.prog 67 #[.slice a n c, .func (.func 48) #[] #[]] w fun e w' => IxEnd (inSp 1000 A B) n e ∧ Below w.heap.size w w' := by
  have HS := Lib.hid hS; clear hS
  go_enter Try.func67, Try.ntmps67
  go_wp2_with fail
  go_loopw [8] (fun t wr => ∃ k : Nat, k ≤ n ∧ t = .int .i64 k ∧ Hid (∀ i, i < k → inSp 1000 A B i = true) ∧ ∃ x, wr = gw w x) (fun t _ => n - (intOf t).toNat)
  case atStart => exact ⟨0, Nat.zero_le _, rfl, Lib.hid (fun i hi => by omega), ⟨#[], w.drawn⟩, by simp [gw]⟩
  case round =>
    obtain ⟨k, hk, rfl, hall, x, rfl⟩ := hrel
    by_cases hlt : k < n
    · rcases HS.out with h0 | ⟨b, off, rfl, lb, hc⟩
      · omega
      obtain ⟨x1, x2⟩ := hc k hlt
      clear hc
      have NS := Lib.hid (notRate (A k) (B k) (gw w x))
      cases hp : inSp 1000 A B k with
      | true =>
        have hp' : spanB (A k) (B k) 0 1000 = true := hp
        rw [hp'] at NS
        have HP := Lib.hid hp; clear hp hp'
        go_wp2_with fail
        refine (Calls.gw_of NS.out).mono ?_
        rintro e w1 ⟨rfl, y, rfl⟩
        go_wp2_with fail
        go_roundw
        case rel => exact ⟨k + 1, by omega, by go_num, Lib.hid (all_succ (P := fun i => inSp 1000 A B i = true) hall.out HP.out), y, rfl⟩
        case measure => simp [intOf]; omega
      | false =>
        have hp' : spanB (A k) (B k) 0 1000 = false := hp
        rw [hp'] at NS
        have HP := Lib.hid hp; clear hp hp'
        go_wp2_with fail
        refine (Calls.gw_of NS.out).mono ?_
        rintro e w1 ⟨rfl, y, rfl⟩
        go_wp2_with fail
        go_ret
        exact ⟨.inr ⟨k, hlt, allB_f hlt HP.out, rfl⟩, below_gw w y⟩
    · obtain rfl : n = k := by omega
      go_wp2_with fail
      go_ret
      exact ⟨.inl ⟨allB_t.2 hall.out, rfl⟩, below_gw w x⟩

set_option maxHeartbeats 1000000 in
theorem hasRate (a : Option Addr) (n c : Nat) (A B : Nat → Int) (w : World) (hn : n ≤ 9223372036854775807) (hS : SpansAt w a n A B) :
    Calls Try.prog 47 #[.slice a n c, .func (.func 48) #[] #[]] w fun e w' => e = .returned (.bool (!allB n (inSp 1000 A B))) ∧ Below w.heap.size w w' := by
  have IX := Lib.hid (ixRate a n c A B w hn hS); clear hS
  go_enter Try.func47, Try.ntmps47
  go_wp2_with fail
  refine IX.out.mono ?_
  rintro e w1 ⟨he, hb⟩
  have HB := Lib.hid hb; clear hb
  rcases he with ⟨h, rfl⟩ | ⟨j, hj, h, rfl⟩
  · have H := Lib.hid h; clear h
    go_wp2_with fail
    go_ret
    exact ⟨by rw [H.out]; rfl, HB.out⟩
  · have H := Lib.hid h; clear h
    go_wp2_with fail
    go_ret
    exact ⟨by rw [H.out]; rfl, HB.out⟩
set_option maxHeartbeats 1000000 in
theorem notCool (lo hi : Int) (w : World) :
    Calls Try.prog 49 #[.agg #[.int .i64 lo, .int .i64 hi]] w fun e w' => e = .returned (.bool (!spanB lo hi 0 150000)) ∧ Below w.heap.size w w' := by
  cases h : spanB lo hi 0 150000
  all_goals
    have H := Lib.hid h; clear h
    go_enter Try.func49, Try.ntmps49
    go_wp2_with fail
    refine (Calls.grown (sin_b _ _ _ _ _ H.out)).mono ?_
    rintro e w1 ⟨rfl, x, rfl⟩
    go_wp2_with fail
    go_ret
    exact ⟨rfl, RowKit.Below.gw (below_alloc _ _) x⟩

set_option maxHeartbeats 1000000 in
theorem ixCool (a : Option Addr) (n c : Nat) (A B : Nat → Int) (w : World) (hn : n ≤ 9223372036854775807) (hS : SpansAt w a n A B) :
    Calls Try.prog 67 #[.slice a n c, .func (.func 49) #[] #[]] w fun e w' => IxEnd (inSp 150000 A B) n e ∧ Below w.heap.size w w' := by
  have HS := Lib.hid hS; clear hS
  go_enter Try.func67, Try.ntmps67
  go_wp2_with fail
  go_loopw [8] (fun t wr => ∃ k : Nat, k ≤ n ∧ t = .int .i64 k ∧ Hid (∀ i, i < k → inSp 150000 A B i = true) ∧ ∃ x, wr = gw w x) (fun t _ => n - (intOf t).toNat)
  case atStart => exact ⟨0, Nat.zero_le _, rfl, Lib.hid (fun i hi => by omega), ⟨#[], w.drawn⟩, by simp [gw]⟩
  case round =>
    obtain ⟨k, hk, rfl, hall, x, rfl⟩ := hrel
    by_cases hlt : k < n
    · rcases HS.out with h0 | ⟨b, off, rfl, lb, hc⟩
      · omega
      obtain ⟨x1, x2⟩ := hc k hlt
      clear hc
      have NS := Lib.hid (notCool (A k) (B k) (gw w x))
      cases hp : inSp 150000 A B k with
      | true =>
        have hp' : spanB (A k) (B k) 0 150000 = true := hp
        rw [hp'] at NS
        have HP := Lib.hid hp; clear hp hp'
        go_wp2_with fail
        refine (Calls.gw_of NS.out).mono ?_
        rintro e w1 ⟨rfl, y, rfl⟩
        go_wp2_with fail
        go_roundw
        case rel => exact ⟨k + 1, by omega, by go_num, Lib.hid (all_succ (P := fun i => inSp 150000 A B i = true) hall.out HP.out), y, rfl⟩
        case measure => simp [intOf]; omega
      | false =>
        have hp' : spanB (A k) (B k) 0 150000 = false := hp
        rw [hp'] at NS
        have HP := Lib.hid hp; clear hp hp'
        go_wp2_with fail
        refine (Calls.gw_of NS.out).mono ?_
        rintro e w1 ⟨rfl, y, rfl⟩
        go_wp2_with fail
        go_ret
        exact ⟨.inr ⟨k, hlt, allB_f hlt HP.out, rfl⟩, below_gw w y⟩
    · obtain rfl : n = k := by omega
      go_wp2_with fail
      go_ret
      exact ⟨.inl ⟨allB_t.2 hall.out, rfl⟩, below_gw w x⟩

set_option maxHeartbeats 1000000 in
theorem hasCool (a : Option Addr) (n c : Nat) (A B : Nat → Int) (w : World) (hn : n ≤ 9223372036854775807) (hS : SpansAt w a n A B) :
    Calls Try.prog 47 #[.slice a n c, .func (.func 49) #[] #[]] w fun e w' => e = .returned (.bool (!allB n (inSp 150000 A B))) ∧ Below w.heap.size w w' := by
  have IX := Lib.hid (ixCool a n c A B w hn hS); clear hS
  go_enter Try.func47, Try.ntmps47
  go_wp2_with fail
  refine IX.out.mono ?_
  rintro e w1 ⟨he, hb⟩
  have HB := Lib.hid hb; clear hb
  rcases he with ⟨h, rfl⟩ | ⟨j, hj, h, rfl⟩
  · have H := Lib.hid h; clear h
    go_wp2_with fail
    go_ret
    exact ⟨by rw [H.out]; rfl, HB.out⟩
  · have H := Lib.hid h; clear h
    go_wp2_with fail
    go_ret
    exact ⟨by rw [H.out]; rfl, HB.out⟩
set_option maxHeartbeats 1000000 in
theorem areCoolings_any (a : Option Addr) (n c : Nat) (A B : Nat → Int) (w : World) (hn : n ≤ 9223372036854775807) (hS : SpansAt w a n A B) :
    Calls Try.prog 31 #[.slice a n c] w fun e w' => e = .returned (.bool (allB n (inSp 150000 A B))) ∧ Below w.heap.size w w' := by
  have HA := hasCool a n c A B w hn hS
  cases h : allB n (inSp 150000 A B)
  all_goals
    rw [h] at HA
    have H := Lib.hid HA; clear HA h
    go_enter Try.func31, Try.ntmps31
    go_wp2_with fail
    refine (Calls.grown H.out).mono ?_
    rintro e w1 ⟨rfl, z, rfl⟩
    go_wp2_with fail
    go_ret
    exact ⟨rfl, below_gw w z⟩
end Go.Proofs.Ytfefmgadfklgmaa
