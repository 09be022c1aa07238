/- Contracts of isCurve (whole), early, all, caught. No conditions beyond each theorem's own. -/
import Derived.Test.YtnmldophadanbaaWd
import Derived.Test.YtnmldophadanbaaWh
set_option linter.unusedVariables false
set_option linter.unusedSimpArgs false
set_option linter.unusedSectionVars false
set_option linter.constructorNameAsVariable false
namespace Go.Proofs.Ytnmldophadanbaa
open Go.RowKit

theorem isCurve_any (aL aV : Option Addr) (n m cL cV : Nat) (L A B : Nat → Int) (w : World) (hn : n ≤ 1000000000000) (hm : m ≤ 1000000000000) (hL : IntsAt w aL n L) (hV : SpansAt w aV m A B) :
    Calls Try.prog 54 #[.agg #[.slice aL n cL, .slice aV m cV]] w fun e w' => e = .returned (.bool (curveB n m L A B)) ∧ Below w.heap.size w w' := by
  cases hd : headB n m L A with
  | false =>
    have : curveB n m L A B = false := by simp [curveB, hd]
    rw [this]; exact isCurve_head aL aV n m cL cV L A B w hn hm hL hV hd
  | true =>
    have h' := hd
    simp only [headB, Bool.and_eq_true, decide_eq_true_eq] at h'
    obtain ⟨h1, h2, _⟩ := h'
    have hr := inB_t.1 h1
    subst h2
    rcases hL with h0 | ⟨b, off, rfl, hbl, hc⟩
    · omega
    rcases hV with h0 | ⟨bv, offv, rfl, hbv, hcv⟩
    · omega
    exact isCurve_loop b off bv offv m cL cV L A B w hbl hbv hc hcv hd
theorem isCurve_b {c : Bool} (aL aV : Option Addr) (n m cL cV : Nat) (L A B : Nat → Int) (w : World) (hn : n ≤ 1000000000000) (hm : m ≤ 1000000000000) (hL : IntsAt w aL n L) (hV : SpansAt w aV m A B) (h : curveB n m L A B = c) :
    Calls Try.prog 54 #[.agg #[.slice aL n cL, .slice aV m cV]] w fun e w' => e = .returned (.bool c) ∧ Below w.heap.size w w' := h ▸ isCurve_any aL aV n m cL cV L A B w hn hm hL hV
theorem isPot_b {c : Bool} (v lo hi : Int) (w : World) (h : potB v lo hi = c) :
    Calls Try.prog 67 #[.agg #[.int .i64 v, .int .i64 lo, .int .i64 hi]] w fun e w' => e = .returned (.bool c) ∧ Below w.heap.size w w' := h ▸ isPot_any v lo hi w

/-- the errors ahead of a run's -/
def earlyE (n m : Nat) (L A B : Nat → Int) (v lo hi : Int) (k : Nat) : Int := if 64 < k then 3 else if curveB n m L A B && potB v lo hi then 0 else 1

set_option maxHeartbeats 1000000 in
theorem early_any (aL aV aM : Option Addr) (n m cL cV k cM : Nat) (L A B : Nat → Int) (v lo hi : Int) (w : World) (hn : n ≤ 1000000000000) (hm : m ≤ 1000000000000) (hk : k ≤ 1000000000000) (hL : IntsAt w aL n L) (hV : SpansAt w aV m A B) :
    Calls Try.prog 43 #[.agg #[.slice aL n cL, .slice aV m cV], .agg #[.int .i64 v, .int .i64 lo, .int .i64 hi], .slice aM k cM] w fun e w' => e = .returned (.int .i64 (earlyE n m L A B v lo hi k)) ∧ Below w.heap.size w w' := by
  have HL := Lib.hid hL; clear hL
  have HV := Lib.hid hV; clear hV
  by_cases h0 : 64 < k
  · have HE := Lib.hid (show earlyE n m L A B v lo hi k = 3 by unfold earlyE; rw [if_pos h0])
    go_enter Try.func43, Try.ntmps43
    go_wp2_with fail
    go_ret
    exact ⟨by rw [HE.out]; rfl, ((Below.refl _ w).alloc (Nat.le_refl _) _).alloc (by simp) _⟩
  · cases hc : curveB n m L A B with
    | false =>
      have HE := Lib.hid (show earlyE n m L A B v lo hi k = 1 by unfold earlyE; rw [if_neg h0, hc]; rfl)
      have H1 := Lib.hid hc; clear hc
      go_enter Try.func43, Try.ntmps43
      go_wp2_with fail
      have hB := ((Below.refl _ w).alloc (Nat.le_refl _) (.cells #[.slice aL n cL, .slice aV m cV] 25)).alloc (by simp) (.cells #[.int .i64 v, .int .i64 lo, .int .i64 hi] 29)
      refine (isCurve_b aL aV n m cL cV L A B _ hn hm (HL.out.below hB) (HV.out.below hB) H1.out).mono ?_
      rintro e w1 ⟨rfl, hb1⟩
      have HB := Lib.hid (hB.trans (hb1.mono hB.size)); clear hB
      go_wp2_with fail
      go_ret
      exact ⟨by rw [HE.out]; rfl, HB.out⟩
    | true =>
      cases hp : potB v lo hi with
      | false =>
        have HE := Lib.hid (show earlyE n m L A B v lo hi k = 1 by unfold earlyE; rw [if_neg h0, hc, hp]; rfl)
        have H1 := Lib.hid hc; clear hc
        have H2 := Lib.hid hp; clear hp
        go_enter Try.func43, Try.ntmps43
        go_wp2_with fail
        have hB := ((Below.refl _ w).alloc (Nat.le_refl _) (.cells #[.slice aL n cL, .slice aV m cV] 25)).alloc (by simp) (.cells #[.int .i64 v, .int .i64 lo, .int .i64 hi] 29)
        refine (isCurve_b aL aV n m cL cV L A B _ hn hm (HL.out.below hB) (HV.out.below hB) H1.out).mono ?_
        rintro e w1 ⟨rfl, hb1⟩
        have HB := Lib.hid (hB.trans (hb1.mono hB.size)); clear hB
        have b0 : w1.cell? ⟨w.heap.size + 1, 0, none⟩ = some (.int .i64 v) := (hb1.cell (p := ⟨w.heap.size + 1, 0, none⟩) (by simp)).trans (by simp)
        have b1 : w1.cell? ⟨w.heap.size + 1, 1, none⟩ = some (.int .i64 lo) := (hb1.cell (p := ⟨w.heap.size + 1, 1, none⟩) (by simp)).trans (by simp)
        have b2 : w1.cell? ⟨w.heap.size + 1, 2, none⟩ = some (.int .i64 hi) := (hb1.cell (p := ⟨w.heap.size + 1, 2, none⟩) (by simp)).trans (by simp)
        clear hb1
        go_wp2_with fail
        refine (isPot_b v lo hi _ H2.out).mono ?_
        rintro e w2 ⟨rfl, hb2⟩
        have HB2 := Lib.hid (HB.out.trans (hb2.mono HB.out.size)); clear hb2
        go_wp2_with fail
        go_ret
        exact ⟨by rw [HE.out]; rfl, HB2.out⟩
      | true =>
        have HE := Lib.hid (show earlyE n m L A B v lo hi k = 0 by unfold earlyE; rw [if_neg h0, hc, hp]; rfl)
        have H1 := Lib.hid hc; clear hc
        have H2 := Lib.hid hp; clear hp
        go_enter Try.func43, Try.ntmps43
        go_wp2_with fail
        have hB := ((Below.refl _ w).alloc (Nat.le_refl _) (.cells #[.slice aL n cL, .slice aV m cV] 25)).alloc (by simp) (.cells #[.int .i64 v, .int .i64 lo, .int .i64 hi] 29)
        refine (isCurve_b aL aV n m cL cV L A B _ hn hm (HL.out.below hB) (HV.out.below hB) H1.out).mono ?_
        rintro e w1 ⟨rfl, hb1⟩
        have HB := Lib.hid (hB.trans (hb1.mono hB.size)); clear hB
        have b0 : w1.cell? ⟨w.heap.size + 1, 0, none⟩ = some (.int .i64 v) := (hb1.cell (p := ⟨w.heap.size + 1, 0, none⟩) (by simp)).trans (by simp)
        have b1 : w1.cell? ⟨w.heap.size + 1, 1, none⟩ = some (.int .i64 lo) := (hb1.cell (p := ⟨w.heap.size + 1, 1, none⟩) (by simp)).trans (by simp)
        have b2 : w1.cell? ⟨w.heap.size + 1, 2, none⟩ = some (.int .i64 hi) := (hb1.cell (p := ⟨w.heap.size + 1, 2, none⟩) (by simp)).trans (by simp)
        clear hb1
        go_wp2_with fail
        refine (isPot_b v lo hi _ H2.out).mono ?_
        rintro e w2 ⟨rfl, hb2⟩
        have HB2 := Lib.hid (HB.out.trans (hb2.mono HB.out.size)); clear hb2
        go_wp2_with fail
        go_ret
        exact ⟨by rw [HE.out]; rfl, HB2.out⟩

set_option maxHeartbeats 400000 in
theorem all_any (bs : Nat) (aM : Option Addr) (k cM : Nat) (w : World) :
    Calls Try.prog 46 #[.pointer (some ⟨bs, 0, none⟩), .slice aM k cM] w fun e w' =>
      e = .returned (.func (.func 68) #[] #[.pointer (some ⟨w.heap.size + 1, 0, none⟩), .pointer (some ⟨w.heap.size, 0, none⟩)]) ∧ (w.alloc (.cells #[.pointer (some ⟨bs, 0, none⟩)] 100)).alloc (.cells #[.slice aM k cM] 22) = w' := by
  have hmf : ∀ (fn : Fn) (first cap : Array Value) (w : World), (Instr.makeFunc fn first cap).run Try.prog w = .ok (.func fn first cap) w := fun _ _ _ _ => rfl
  go_enter Try.func46, Try.ntmps46
  go_wp2
  go_ret
  exact ⟨rfl, rfl⟩

set_option maxHeartbeats 400000 in
theorem caught_nil (n : Int) (w : World) :
    Calls Try.prog 45 #[.nilIface, .int .i64 n] w fun e w' => e = .returned (.int .i64 n) ∧ w = w' := by
  go_enter Try.func45, Try.ntmps45
  go_wp2
  go_ret
  exact ⟨rfl, rfl⟩

set_option maxRecDepth 100000 in
set_option maxHeartbeats 400000 in
theorem caught_misfit (n k : Int) (w : World) :
    Calls Try.prog 45 #[.iface 99 (.agg #[.int .i64 k]), .int .i64 n] w fun e w' => e = .returned (.int .i64 k) ∧ Below w.heap.size w w' := by
  have hta : ∀ w, Sem.run Try.prog (Instr.typeAssert (.iface 99 (.agg #[.int .i64 k])) 20 99 true) w = .ok (.tuple #[.agg #[.int .i64 k], .bool true]) w := fun _ => by kernel_rfl
  go_enter Try.func45, Try.ntmps45
  go_wp2
  go_ret
  exact ⟨rfl, (Below.refl _ w).alloc (Nat.le_refl _) _⟩
end Go.Proofs.Ytnmldophadanbaa
