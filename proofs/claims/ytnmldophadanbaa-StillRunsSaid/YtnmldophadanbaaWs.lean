/- Contracts of Plates and what it holds, Vapour, Check. No conditions beyond each theorem's own. -/
import Derived.Test.YtnmldophadanbaaWr
set_option linter.unusedVariables false
set_option linter.unusedSimpArgs false
set_option linter.unusedSectionVars false
set_option linter.constructorNameAsVariable false
namespace Go.Proofs.Ytnmldophadanbaa
open Go.RowKit

attribute [local go_sem] gw_cell gw_frozen gw_size

/-- a number, again and again -/
def seqI (f : Int → Int) (s : Int) : Nat → Int
  | 0 => s
  | n + 1 => f (seqI f s n)
theorem seqI_range {f : Int → Int} {s : Int} (hf : ∀ x, 0 ≤ x ∧ x ≤ 10000 → 0 ≤ f x ∧ f x ≤ 10000) (h0 : 0 ≤ s) (h1 : s ≤ 10000) : ∀ j, 0 ≤ seqI f s j ∧ seqI f s j ≤ 10000
  | 0 => ⟨h0, h1⟩
  | j + 1 => hf _ (seqI_range hf h0 h1 j)
theorem g_range_hi {n : Nat} {L A B : Nat → Int} (G : Hid (Good n L A B)) {x : Int} (h : 0 ≤ x ∧ x ≤ 10000) : 0 ≤ vapHi L B n x ∧ vapHi L B n x ≤ 10000 := G.out.vapHi_range h.1 h.2
theorem g_range_lo {n : Nat} {L A B : Nat → Int} (G : Hid (Good n L A B)) {x : Int} (h : 0 ≤ x ∧ x ≤ 10000) : 0 ≤ vapLo L A n x ∧ vapLo L A n x ≤ 10000 := G.out.vapLo_range h.1 h.2

/-- the first one of so many that reaches t -/
def firstGe (q : Nat → Int) (t : Int) : Nat → Nat
  | 0 => 0
  | n + 1 => if firstGe q t n = n ∧ q n < t then n + 1 else firstGe q t n
def countI (q : Nat → Int) (t : Int) : Int := if firstGe q t 101 < 101 then firstGe q t 101 else -1
theorem firstGe_le (q : Nat → Int) (t : Int) : ∀ n, firstGe q t n ≤ n
  | 0 => Nat.le_refl _
  | n + 1 => by unfold firstGe; have := firstGe_le q t n; split <;> omega
theorem firstGe_lt (q : Nat → Int) (t : Int) : ∀ n k, k < firstGe q t n → q k < t
  | 0, k, h => by simp [firstGe] at h
  | n + 1, k, h => by
    unfold firstGe at h
    split at h
    · rename_i hc
      by_cases e : k = n
      · rw [e]; exact hc.2
      · exact firstGe_lt q t n k (by rw [hc.1]; omega)
    · exact firstGe_lt q t n k h
theorem firstGe_stop (q : Nat → Int) (t : Int) : ∀ n, firstGe q t n < n → t ≤ q (firstGe q t n)
  | 0, h => by simp at h
  | n + 1, h => by
    unfold firstGe at h ⊢
    split
    · rename_i hc; simp only [hc, and_self, if_true] at h; omega
    · rename_i hc
      simp only [hc, if_false] at h
      by_cases e : firstGe q t n = n
      · rw [e]; exact Int.not_lt.1 fun hx => hc ⟨e, hx⟩
      · exact firstGe_stop q t n (by have := firstGe_le q t n; omega)
theorem firstGe_unique {q : Nat → Int} {t : Int} {n j : Nat} (hj : j < n) (h1 : ∀ k, k < j → q k < t) (h2 : t ≤ q j) : firstGe q t n = j := by
  have a := firstGe_le q t n
  rcases Nat.lt_trichotomy (firstGe q t n) j with h | h | h
  · have := firstGe_stop q t n (by omega); have := h1 _ h; omega
  · exact h
  · have := firstGe_lt q t n j h; omega
theorem countI_at {q : Nat → Int} {t : Int} {j : Nat} (hj : j < 101) (h1 : ∀ k, k < j → q k < t) (h2 : t ≤ q j) : countI q t = j := by
  unfold countI; rw [firstGe_unique hj h1 h2, if_pos hj]
theorem countI_none {q : Nat → Int} {t : Int} (h1 : ∀ k, k < 101 → q k < t) : countI q t = -1 := by
  unfold countI
  have a := firstGe_le q t 101
  rw [if_neg]
  intro h
  have := firstGe_stop q t 101 h
  have := h1 _ h
  omega
structure CountIs (q : Nat → Int) (t ct : Int) : Prop where
  eq : countI q t = ct
def AllBelow (q : Nat → Int) (t : Int) (j : Nat) : Prop := ∀ k, k < j → q k < t
theorem countI_cases (q : Nat → Int) (t : Int) : (∃ j : Nat, j ≤ 100 ∧ countI q t = j ∧ (∀ k, k < j → q k < t) ∧ t ≤ q j) ∨ (countI q t = -1 ∧ ∀ k, k < 101 → q k < t) := by
  by_cases h : firstGe q t 101 < 101
  · exact .inl ⟨firstGe q t 101, by omega, by unfold countI; rw [if_pos h], firstGe_lt q t 101, firstGe_stop q t 101 h⟩
  · have a := firstGe_le q t 101
    have e : firstGe q t 101 = 101 := by omega
    exact .inr ⟨by unfold countI; rw [if_neg h], fun k hk => firstGe_lt q t 101 k (by omega)⟩

set_option maxRecDepth 100000 in
set_option maxHeartbeats 2000000 in
theorem end_hi (lo hi : Int) (w : World) :
    Calls Try.prog 59 #[.agg #[.int .i64 lo, .int .i64 hi]] w fun e w' => e = .returned (.int .i64 hi) ∧ Below w.heap.size w w' := by
  go_enter Try.func59, Try.ntmps59
  go_wp2
  go_ret
  exact ⟨rfl, ((Below.refl _ _).alloc (Nat.le_refl _) _)⟩

set_option maxRecDepth 100000 in
set_option maxHeartbeats 1000000 in
theorem count_hi (bf bt bc b off bv offv n cL cV : Nat) (s t : Int) (L A B : Nat → Int) (w : World) (g : Good n L A B) (hC : CurveAt w bc b off bv offv n cL cV L A B) (h0 : 0 ≤ s) (h1 : s ≤ 10000)
    (hf : w.cell? ⟨bf, 0, none⟩ = some (.int .i64 s)) (ht : w.cell? ⟨bt, 0, none⟩ = some (.int .i64 t)) :
    Calls Try.prog 58 #[.func (.func 59) #[] #[], .pointer (some ⟨bf, 0, none⟩), .pointer (some ⟨bt, 0, none⟩), .pointer (some ⟨bc, 0, none⟩)] w fun e w' =>
      e = .returned (.int .i64 (countI (seqI (fun x => vapHi L B n x) s) t)) ∧ Below w.heap.size w w' := by
  have lf := World.block_lt_of_cell? w _ hf
  have lt := World.block_lt_of_cell? w _ ht
  have HC := Lib.hid hC; clear hC
  have G := Lib.hid g; clear g
  obtain ⟨q, hq⟩ : ∃ q, q = seqI (fun x => vapHi L B n x) s := ⟨_, rfl⟩
  have q0 : q 0 = s := by rw [hq]; rfl
  have QR := Lib.hid (fun j => show 0 ≤ q j ∧ q j ≤ 10000 by rw [hq]; exact seqI_range (fun x hx => g_range_hi G hx) h0 h1 j)
  have QS := Lib.hid (fun j => show q (j + 1) = vapHi L B n (q j) by rw [hq]; rfl)
  rw [← hq]
  clear hq
  obtain ⟨ct, hct⟩ : ∃ ct, countI q t = ct := ⟨_, rfl⟩
  rw [hct]
  have HCT : CountIs q t ct := ⟨hct⟩
  clear hct
  have Q0 := Lib.hid q0; clear q0
  go_enter Try.func58, Try.ntmps58
  go_wp2
  go_loopw [6, 9] (fun xs i wr => ∃ (j : Nat) (x : Int), j ≤ 101 ∧ i = .int .i64 j ∧ xs = .int .i64 x ∧ Hid (q j = x) ∧ AllBelow q t j ∧ ∃ z, wr = gw w z) (fun _ i _ => 101 - (intOf i).toNat)
  case atStart => exact ⟨0, s, by omega, rfl, rfl, Q0, fun k hk => by omega, ⟨#[], w.drawn⟩, by simp [gw]⟩
  case round =>
    obtain ⟨j, x, hj, rfl, rfl, HX, hall, z, rfl⟩ := hrel
    have HA := Lib.hid hall; clear hall
    have qr := QR.out j
    rw [HX.out] at qr
    by_cases hlt : j ≤ 100
    · by_cases hge : t ≤ x
      · have HN := Lib.hid (show ct = j by rw [← HCT.eq]; exact countI_at (by omega) HA.out (by rw [HX.out]; exact hge))
        go_wp2_with fail
        go_ret
        exact ⟨by rw [HN.out]; rfl, below_gw w z⟩
      · obtain ⟨o, HO⟩ : ∃ o, Hid (o = vapLo L A n x) := ⟨_, Lib.hid rfl⟩
        obtain ⟨y, HY⟩ : ∃ y, Hid (y = vapHi L B n x) := ⟨_, Lib.hid rfl⟩
        have V := Lib.hid (show Calls Try.prog 55 #[.pointer (some ⟨bc, 0, none⟩), .agg #[.int .i64 x, .int .i64 x]] (gw w z) (fun e w' => e = .returned (.agg #[.int .i64 o, .int .i64 y]) ∧ ∃ x', w' = gw w x') by
          rw [HY.out, HO.out]; exact Calls.gw_of (vapour_any bc b off bv offv n cL cV x x L A B _ G.out (HC.out.gw z) (by omega) (by omega) (by omega) (by omega)))
        go_wp2_with fail
        refine V.out.mono ?_
        clear V
        rintro e w1 ⟨rfl, z2, rfl⟩
        go_wp2_with fail
        refine (Calls.gw_of (end_hi _ _ _)).mono ?_
        rintro e w1 ⟨rfl, z3, rfl⟩
        go_wp2_with fail
        go_roundw
        case rel => exact ⟨j + 1, y, by omega, by go_num, rfl, Lib.hid (by rw [QS.out j, HX.out, HY.out]), all_succ HA.out (by rw [HX.out]; omega), z3, rfl⟩
        case measure => simp [intOf]; omega
    · have HN := Lib.hid (show ct = -1 by rw [← HCT.eq]; exact countI_none fun k hk => HA.out k (by omega))
      go_wp2_with fail
      go_ret
      exact ⟨by rw [HN.out]; rfl, below_gw w z⟩

set_option maxRecDepth 100000 in
set_option maxHeartbeats 2000000 in
theorem end_lo (lo hi : Int) (w : World) :
    Calls Try.prog 60 #[.agg #[.int .i64 lo, .int .i64 hi]] w fun e w' => e = .returned (.int .i64 lo) ∧ Below w.heap.size w w' := by
  go_enter Try.func60, Try.ntmps60
  go_wp2
  go_ret
  exact ⟨rfl, ((Below.refl _ _).alloc (Nat.le_refl _) _)⟩

set_option maxRecDepth 100000 in
set_option maxHeartbeats 1000000 in
theorem count_lo (bf bt bc b off bv offv n cL cV : Nat) (s t : Int) (L A B : Nat → Int) (w : World) (g : Good n L A B) (hC : CurveAt w bc b off bv offv n cL cV L A B) (h0 : 0 ≤ s) (h1 : s ≤ 10000)
    (hf : w.cell? ⟨bf, 0, none⟩ = some (.int .i64 s)) (ht : w.cell? ⟨bt, 0, none⟩ = some (.int .i64 t)) :
    Calls Try.prog 58 #[.func (.func 60) #[] #[], .pointer (some ⟨bf, 0, none⟩), .pointer (some ⟨bt, 0, none⟩), .pointer (some ⟨bc, 0, none⟩)] w fun e w' =>
      e = .returned (.int .i64 (countI (seqI (fun x => vapLo L A n x) s) t)) ∧ Below w.heap.size w w' := by
  have lf := World.block_lt_of_cell? w _ hf
  have lt := World.block_lt_of_cell? w _ ht
  have HC := Lib.hid hC; clear hC
  have G := Lib.hid g; clear g
  obtain ⟨q, hq⟩ : ∃ q, q = seqI (fun x => vapLo L A n x) s := ⟨_, rfl⟩
  have q0 : q 0 = s := by rw [hq]; rfl
  have QR := Lib.hid (fun j => show 0 ≤ q j ∧ q j ≤ 10000 by rw [hq]; exact seqI_range (fun x hx => g_range_lo G hx) h0 h1 j)
  have QS := Lib.hid (fun j => show q (j + 1) = vapLo L A n (q j) by rw [hq]; rfl)
  rw [← hq]
  clear hq
  obtain ⟨ct, hct⟩ : ∃ ct, countI q t = ct := ⟨_, rfl⟩
  rw [hct]
  have HCT : CountIs q t ct := ⟨hct⟩
  clear hct
  have Q0 := Lib.hid q0; clear q0
  go_enter Try.func58, Try.ntmps58
  go_wp2
  go_loopw [6, 9] (fun xs i wr => ∃ (j : Nat) (x : Int), j ≤ 101 ∧ i = .int .i64 j ∧ xs = .int .i64 x ∧ Hid (q j = x) ∧ AllBelow q t j ∧ ∃ z, wr = gw w z) (fun _ i _ => 101 - (intOf i).toNat)
  case atStart => exact ⟨0, s, by omega, rfl, rfl, Q0, fun k hk => by omega, ⟨#[], w.drawn⟩, by simp [gw]⟩
  case round =>
    obtain ⟨j, x, hj, rfl, rfl, HX, hall, z, rfl⟩ := hrel
    have HA := Lib.hid hall; clear hall
    have qr := QR.out j
    rw [HX.out] at qr
    by_cases hlt : j ≤ 100
    · by_cases hge : t ≤ x
      · have HN := Lib.hid (show ct = j by rw [← HCT.eq]; exact countI_at (by omega) HA.out (by rw [HX.out]; exact hge))
        go_wp2_with fail
        go_ret
        exact ⟨by rw [HN.out]; rfl, below_gw w z⟩
      · obtain ⟨o, HO⟩ : ∃ o, Hid (o = vapHi L B n x) := ⟨_, Lib.hid rfl⟩
        obtain ⟨y, HY⟩ : ∃ y, Hid (y = vapLo L A n x) := ⟨_, Lib.hid rfl⟩
        have V := Lib.hid (show Calls Try.prog 55 #[.pointer (some ⟨bc, 0, none⟩), .agg #[.int .i64 x, .int .i64 x]] (gw w z) (fun e w' => e = .returned (.agg #[.int .i64 y, .int .i64 o]) ∧ ∃ x', w' = gw w x') by
          rw [HY.out, HO.out]; exact Calls.gw_of (vapour_any bc b off bv offv n cL cV x x L A B _ G.out (HC.out.gw z) (by omega) (by omega) (by omega) (by omega)))
        go_wp2_with fail
        refine V.out.mono ?_
        clear V
        rintro e w1 ⟨rfl, z2, rfl⟩
        go_wp2_with fail
        refine (Calls.gw_of (end_lo _ _ _)).mono ?_
        rintro e w1 ⟨rfl, z3, rfl⟩
        go_wp2_with fail
        go_roundw
        case rel => exact ⟨j + 1, y, by omega, by go_num, rfl, Lib.hid (by rw [QS.out j, HX.out, HY.out]), all_succ HA.out (by rw [HX.out]; omega), z3, rfl⟩
        case measure => simp [intOf]; omega
    · have HN := Lib.hid (show ct = -1 by rw [← HCT.eq]; exact countI_none fun k hk => HA.out k (by omega))
      go_wp2_with fail
      go_ret
      exact ⟨by rw [HN.out]; rfl, below_gw w z⟩

end Go.Proofs.Ytnmldophadanbaa
