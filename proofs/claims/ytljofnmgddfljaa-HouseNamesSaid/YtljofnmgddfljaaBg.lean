/- Contracts of the floor of a day: the comparing of stays, slices.BinarySearchFunc, the closure. No conditions beyond each theorem's own. -/
import Derived.Test.YtljofnmgddfljaaBf
set_option linter.unusedVariables false
set_option linter.unusedSimpArgs false
set_option linter.unusedSectionVars false
set_option linter.constructorNameAsVariable false
namespace Go.Proofs.Ytljofnmgddfljaa
open Go.RowKit

attribute [local go_sem] gw_cell gw_frozen gw_size

set_option maxHeartbeats 1000000 in
theorem keepCmp_any (f g d : Int) (w : World) (h0 : 0 ≤ f) (h1 : f ≤ 65536) (h2 : 0 ≤ d) (h3 : d ≤ 65536) :
    Calls Try.prog 77 #[.agg #[.int .i64 f, .int .i64 g], .int .i64 d] w fun e w' => e = .returned (.int .i64 (f - d)) ∧ Below w.heap.size w w' := by
  go_enter Try.func77, Try.ntmps77
  go_wp2_with fail
  go_ret
  exact ⟨rfl, below_alloc _ _⟩

set_option maxRecDepth 100000 in
set_option maxHeartbeats 1000000 in
theorem staySearch_any (b off n c : Nat) (d : Int) (F G : Nat → Int) (w : World) (hn : n ≤ 64) (hb : b < w.heap.size) (h2 : 0 ≤ d) (h3 : d ≤ 65536)
    (hc : ∀ i, i < n → w.cell? ⟨b, off + i * 2, none⟩ = some (.int .i64 (F i)) ∧ w.cell? ⟨b, off + i * 2 + 1, none⟩ = some (.int .i64 (G i))) (hr : ∀ i, i < n → 0 ≤ F i ∧ F i ≤ 65536) (hmon : ∀ s t, s ≤ t → t < n → F s ≤ F t) :
    Calls Try.prog 76 #[.slice (some ⟨b, off, none⟩) n c, .int .i64 d, .func (.func 77) #[] #[]] w fun e w' => e = .returned (.tuple #[.int .i64 (lb F d n), .bool (foundB F d n)]) ∧ Below w.heap.size w w' := by
  have HC := Lib.hid hc; clear hc
  have HM := Lib.hid hmon; clear hmon
  have HR := Lib.hid hr; clear hr
  go_enter Try.func76, Try.ntmps76
  go_wp2_with fail
  go_loopw [9, 10] (fun p q wr => ∃ i j : Nat, i ≤ j ∧ j ≤ n ∧ p = .int .i64 i ∧ q = .int .i64 j ∧ (∀ t, t < i → F t < d) ∧ (j < n → d ≤ F j) ∧ ∃ x, wr = gw w x) (fun p q _ => (intOf q - intOf p).toNat)
  case atStart => exact ⟨0, n, Nat.zero_le _, Nat.le_refl _, rfl, rfl, fun _ h => by omega, fun h => by omega, ⟨#[], w.drawn⟩, by simp [gw]⟩
  case round =>
    obtain ⟨i, j, hij, hjn, rfl, rfl, h1, h2', x, rfl⟩ := hrel
    have K1 := Lib.hid h1; clear h1
    have K2 := Lib.hid h2'; clear h2'
    by_cases hlt : i < j
    · obtain ⟨cm, cm'⟩ := HC.out ((i + j) / 2) (by omega)
      obtain ⟨r0, r1⟩ := HR.out ((i + j) / 2) (by omega)
      by_cases hx : F ((i + j) / 2) - d < 0
      · go_wp2_with fail
        refine (Calls.gw_of (keepCmp_any (F ((i + j) / 2)) (G ((i + j) / 2)) d _ r0 r1 h2 h3)).mono ?_
        rintro e w1 ⟨rfl, y, rfl⟩
        go_wp2_with fail
        go_roundw
        case rel => exact ⟨(i + j) / 2 + 1, j, by omega, by omega, by go_num, rfl, fun t ht => Int.lt_of_le_of_lt (HM.out t ((i + j) / 2) (by omega) (by omega)) (by omega), K2.out, y, rfl⟩
        case measure => simp [intOf]; omega
      · go_wp2_with fail
        refine (Calls.gw_of (keepCmp_any (F ((i + j) / 2)) (G ((i + j) / 2)) d _ r0 r1 h2 h3)).mono ?_
        rintro e w1 ⟨rfl, y, rfl⟩
        go_wp2_with fail
        go_roundw
        case rel => exact ⟨i, (i + j) / 2, by omega, by omega, rfl, by go_num, K1.out, fun _ => by omega, y, rfl⟩
        case measure => simp [intOf]; omega
    · obtain rfl : i = j := by omega
      have HI := Lib.hid (lb_unique hjn K1.out (fun h => Int.not_lt.2 (K2.out h)))
      by_cases hin : i < n
      · obtain ⟨ci, ci'⟩ := HC.out i hin
        obtain ⟨r0, r1⟩ := HR.out i hin
        by_cases hx : F i = d
        · have HF := Lib.hid (show foundB F d n = true by unfold foundB; rw [← HI.out]; simp [hin, hx])
          have hx' : ((F i - d) == 0) = true := by simp; omega
          clear hx
          go_wp2_with fail
          refine (Calls.gw_of (keepCmp_any (F i) (G i) d _ r0 r1 h2 h3)).mono ?_
          rintro e w1 ⟨rfl, y, rfl⟩
          go_wp2_with fail
          go_ret2
          exact ⟨by rw [HF.out, ← HI.out]; rfl, below_gw w y⟩
        · have HF := Lib.hid (show foundB F d n = false by unfold foundB; rw [← HI.out]; simp [hx])
          have hx' : ((F i - d) == 0) = false := by simp; omega
          clear hx
          go_wp2_with fail
          refine (Calls.gw_of (keepCmp_any (F i) (G i) d _ r0 r1 h2 h3)).mono ?_
          rintro e w1 ⟨rfl, y, rfl⟩
          go_wp2_with fail
          go_ret2
          exact ⟨by rw [HF.out, ← HI.out]; rfl, below_gw w y⟩
      · have HF := Lib.hid (show foundB F d n = false by unfold foundB; rw [← HI.out]; simp [hin])
        go_wp2_with fail
        go_ret2
        exact ⟨by rw [HF.out, ← HI.out]; rfl, below_gw w x⟩

/-- a day's stay -/
def stayAt (F : Nat → Int) (n : Nat) (d : Int) : Nat := lb F (d + 1) n - 1
theorem stay_lb {F : Nat → Int} {n : Nat} {d : Int} (hm : ∀ i, i + 1 < n → F i < F (i + 1)) (h0 : 0 < lb F (d + 1) n) :
    (lb F (d + 1) n : Nat) = (if foundB F d n then lb F d n + 1 else lb F d n) := by
  have a := lb_le F d n
  have hmon := mono_of (fun i hi => Int.le_of_lt (hm i hi))
  unfold foundB
  split
  · rename_i h
    simp only [Bool.and_eq_true, decide_eq_true_eq] at h
    refine (lb_unique (by omega) (fun t ht => ?_) (fun hlt => ?_)).symm
    · have := hmon t (lb F d n) (by omega) h.1
      omega
    · have := hm (lb F d n) hlt
      omega
  · rename_i h
    simp only [Bool.and_eq_true, decide_eq_true_eq, not_and] at h
    refine (lb_unique a (fun t ht => ?_) (fun hlt => ?_)).symm
    · have := lb_lt F d n t ht
      omega
    · have := lb_stop F d n hlt
      have := h hlt
      omega

set_option maxHeartbeats 1000000 in
theorem floor_any (b off n c bs : Nat) (d : Int) (F G : Nat → Int) (w : World) (hn : n ≤ 64) (hb : b < w.heap.size) (h2 : 0 ≤ d) (h3 : d ≤ 65536)
    (hs : w.cell? ⟨bs, 0, none⟩ = some (.slice (some ⟨b, off, none⟩) n c)) (hbs : bs < w.heap.size)
    (hc : ∀ i, i < n → w.cell? ⟨b, off + i * 2, none⟩ = some (.int .i64 (F i)) ∧ w.cell? ⟨b, off + i * 2 + 1, none⟩ = some (.int .i64 (G i))) (hr : ∀ i, i < n → 0 ≤ F i ∧ F i ≤ 65536) (hm : ∀ i, i + 1 < n → F i < F (i + 1)) (h0 : 0 < lb F (d + 1) n) :
    Calls Try.prog 75 #[.int .i64 d, .pointer (some ⟨bs, 0, none⟩)] w fun e w' => e = .returned (.int .i64 (G (stayAt F n d))) ∧ Below w.heap.size w w' := by
  have SE := Lib.hid (staySearch_any b off n c d F G w hn hb h2 h3 hc hr (mono_of (fun i hi => Int.le_of_lt (hm i hi))))
  have SL := stay_lb hm h0
  have SA : stayAt F n d = lb F (d + 1) n - 1 := rfl
  have LE := lb_le F (d + 1) n
  obtain ⟨s, hsd⟩ : ∃ s, stayAt F n d = s := ⟨_, rfl⟩
  rw [hsd] at SA ⊢
  obtain ⟨q, hq⟩ : ∃ q, lb F d n = q := ⟨_, rfl⟩
  rw [hq] at SL SE
  obtain ⟨-, cg⟩ := hc s (by omega)
  clear hsd hq hc hr hm
  cases hf : foundB F d n with
  | true =>
    rw [hf] at SL SE
    obtain rfl : q = s := by simp at SL; omega
    have e1 : q < n := by simp at SL; omega
    clear SL SA LE h0 hf
    go_enter Try.func75, Try.ntmps75
    go_wp2_with fail
    refine SE.out.mono ?_
    rintro e w1 ⟨rfl, hb1⟩
    obtain ⟨x, rfl⟩ := gw_of_below hb1
    go_wp2_with fail
    go_ret
    exact ⟨rfl, hb1⟩
  | false =>
    rw [hf] at SL SE
    obtain rfl : q = s + 1 := by simp at SL; omega
    have e1 : s < n := by simp at SL; omega
    have e2 : ((s + 1 : Nat) : Int) - 1 = s := by omega
    clear SL SA LE h0 hf
    go_enter Try.func75, Try.ntmps75
    go_wp2_with fail
    refine SE.out.mono ?_
    rintro e w1 ⟨rfl, hb1⟩
    obtain ⟨x, rfl⟩ := gw_of_below hb1
    go_wp2_with fail
    go_ret
    exact ⟨rfl, hb1⟩
end Go.Proofs.Ytljofnmgddfljaa
