/- Contract of the reference's Plates. No conditions beyond each theorem's own. -/
import Derived.Test.YtnmldophadanbaaNd
set_option linter.unusedVariables false
set_option linter.unusedSimpArgs false
set_option linter.unusedSectionVars false
set_option linter.constructorNameAsVariable false
namespace Go.Proofs.Ytnmldophadanbaa
open Go.RowKit

attribute [local go_sem] gw_cell gw_frozen gw_size field_lo field_hi

/-- the first of so many that reaches t, or -1 -/
def cntJ (q : Nat → Int) (t : Int) (j : Nat) : Int := if firstGe q t j < j then firstGe q t j else -1
theorem cntJ_pos {q : Nat → Int} {t : Int} {j : Nat} (h : ¬ cntJ q t j < 0) : cntJ q t (j + 1) = cntJ q t j := by
  unfold cntJ at h ⊢
  split at h
  · rename_i h1
    have e : firstGe q t (j + 1) = firstGe q t j := by
      conv => lhs; unfold firstGe
      rw [if_neg (by omega)]
    rw [e, if_pos (by omega), if_pos h1]
  · omega
theorem cntJ_lt {q : Nat → Int} {t : Int} {j : Nat} (h : q j < t) : cntJ q t (j + 1) = cntJ q t j := by
  by_cases hp : cntJ q t j < 0
  · unfold cntJ at hp ⊢
    split at hp
    · omega
    · rename_i h1
      have := firstGe_le q t j
      have e : firstGe q t (j + 1) = j + 1 := by
        conv => lhs; unfold firstGe
        rw [if_pos ⟨by omega, h⟩]
      rw [e, if_neg (by omega), if_neg h1]
  · exact cntJ_pos hp
theorem cntJ_ge {q : Nat → Int} {t : Int} {j : Nat} (h : t ≤ q j) (hp : cntJ q t j < 0) : cntJ q t (j + 1) = j := by
  unfold cntJ at hp ⊢
  split at hp
  · omega
  · have := firstGe_le q t j
    have e : firstGe q t (j + 1) = j := by
      conv => lhs; unfold firstGe
      rw [if_neg (by omega)]
      omega
    rw [e, if_pos (by omega)]
theorem cntJ_zero (q : Nat → Int) (t : Int) : cntJ q t 0 = -1 := rfl
theorem cntJ_end (q : Nat → Int) (t : Int) : cntJ q t 101 = countI q t := rfl
/-- how the number turns in a round -/
theorem cntJ_cases (q : Nat → Int) (t : Int) (j : Nat) :
    (q j < t ∧ cntJ q t (j + 1) = cntJ q t j) ∨ (t ≤ q j ∧ ¬ cntJ q t j < 0 ∧ cntJ q t (j + 1) = cntJ q t j) ∨ (t ≤ q j ∧ cntJ q t j < 0 ∧ cntJ q t (j + 1) = j) := by
  by_cases h : q j < t
  · exact .inl ⟨h, cntJ_lt h⟩
  · by_cases hp : cntJ q t j < 0
    · exact .inr (.inr ⟨by omega, hp, cntJ_ge (by omega) hp⟩)
    · exact .inr (.inl ⟨by omega, hp, cntJ_pos hp⟩)

theorem rcurve_b {c : Bool} (aL aV : Option Addr) (n m cL cV : Nat) (L A B : Nat → Int) (w : World) (hn : n ≤ 1000000000000) (hm : m ≤ 1000000000000) (hL : IntsAt w aL n L) (hV : SpansAt w aV m A B) (h : curveB n m L A B = c) :
    Calls Try.prog 22 #[.agg #[.slice aL n cL, .slice aV m cV]] w fun e w' => e = .returned (.bool c) ∧ Below w.heap.size w w' := h ▸ rcurve_any aL aV n m cL cV L A B w hn hm hL hV

set_option maxRecDepth 100000 in
set_option maxHeartbeats 1000000 in
theorem rplates_err (aL aV : Option Addr) (n m cL cV : Nat) (L A B : Nat → Int) (s t : Int) (w : World) (hn : n ≤ 1000000000000) (hm : m ≤ 1000000000000) (hL : IntsAt w aL n L) (hV : SpansAt w aV m A B) (x : Int) (hE : platesErr n m L A B s t = x) (hx : x ≠ 0) :
    Calls Try.prog 39 #[.agg #[.slice aL n cL, .slice aV m cV], .int .i64 s, .int .i64 t] w fun e w' => e = .returned (.tuple #[.int .i64 0, .int .i64 0, .int .i64 x]) ∧ Below w.heap.size w w' := by
  obtain ⟨W2, hW2⟩ : ∃ W2, w.alloc (.cells #[.slice aL n cL, .slice aV m cV] 25) = W2 := ⟨_, rfl⟩
  have low : Below w.heap.size w W2 := by rw [← hW2]; exact below_alloc _ _
  have c0 : W2.cell? ⟨w.heap.size, 0, none⟩ = some (.slice aL n cL) := by rw [← hW2]; simp
  have c1 : W2.cell? ⟨w.heap.size, 1, none⟩ = some (.slice aV m cV) := by rw [← hW2]; simp
  have s0 : w.heap.size < W2.heap.size := by rw [← hW2]; simp
  have HL := Lib.hid (hL.below low); clear hL
  have HV := Lib.hid (hV.below low); clear hV
  have HW2 := Lib.hid hW2; clear hW2
  have LOW := Lib.hid low; clear low
  cases hc : curveB n m L A B with
  | false =>
    obtain rfl : x = 1 := by rw [← hE]; unfold platesErr; rw [hc]; rfl
    clear hE hx
    have H1 := Lib.hid hc; clear hc
    go_enter Try.func39, Try.ntmps39
    go_wp2_with fail
    rw [HW2.out]
    refine (Calls.grown (rcurve_b aL aV n m cL cV L A B W2 hn hm HL.out HV.out H1.out)).mono ?_
    rintro e w1 ⟨rfl, y, rfl⟩
    go_wp2_with fail
    go_ret3
    exact ⟨rfl, LOW.out.gw y⟩
  | true =>
    have H1 := Lib.hid hc
    cases h2 : inB s 0 10000 with
    | false =>
      obtain rfl : x = 2 := by rw [← hE]; unfold platesErr; rw [hc, h2]; rfl
      clear hE hx hc
      have H2 := Lib.hid h2; clear h2
      go_enter Try.func39, Try.ntmps39
      go_wp2_with fail
      rw [HW2.out]
      refine (Calls.grown (rcurve_b aL aV n m cL cV L A B W2 hn hm HL.out HV.out H1.out)).mono ?_
      rintro e w1 ⟨rfl, y, rfl⟩
      go_wp2_with fail
      refine (rin_b _ _ _ _ H2.out).mono ?_
      rintro e w1 ⟨rfl, rfl⟩
      go_wp2_with fail
      go_ret3
      exact ⟨rfl, LOW.out.gw y⟩
    | true =>
      have H2 := Lib.hid h2
      cases h3 : inB t 0 10000 with
      | false =>
        obtain rfl : x = 2 := by rw [← hE]; unfold platesErr; rw [hc, h2, h3]; rfl
        clear hE hx hc h2
        have H3 := Lib.hid h3; clear h3
        go_enter Try.func39, Try.ntmps39
        go_wp2_with fail
        rw [HW2.out]
        refine (Calls.grown (rcurve_b aL aV n m cL cV L A B W2 hn hm HL.out HV.out H1.out)).mono ?_
        rintro e w1 ⟨rfl, y, rfl⟩
        go_wp2_with fail
        refine (rin_b _ _ _ _ H2.out).mono ?_
        rintro e w1 ⟨rfl, rfl⟩
        go_wp2_with fail
        refine (rin_b _ _ _ _ H3.out).mono ?_
        rintro e w1 ⟨rfl, rfl⟩
        go_wp2_with fail
        go_ret3
        exact ⟨rfl, LOW.out.gw y⟩
      | true => exact absurd (by rw [← hE]; unfold platesErr; rw [hc, h2, h3]; rfl) hx


set_option maxRecDepth 100000 in
set_option maxHeartbeats 4000000 in
theorem rplates_ok (aL aV : Option Addr) (n m cL cV : Nat) (L A B : Nat → Int) (s t : Int) (w : World) (hn : n ≤ 1000000000000) (hm : m ≤ 1000000000000) (hL : IntsAt w aL n L) (hV : SpansAt w aV m A B) (hE : platesErr n m L A B s t = 0)
    (ch cl : Int) (hh : CountIs (seqI (fun x => vapHi L B n x) s) t ch) (hl : CountIs (seqI (fun x => vapLo L A n x) s) t cl) :
    Calls Try.prog 39 #[.agg #[.slice aL n cL, .slice aV m cV], .int .i64 s, .int .i64 t] w fun e w' => PlatesEnd ch cl e ∧ Below w.heap.size w w' := by
  obtain ⟨e1, e2, e3⟩ := plates_valid hE
  obtain ⟨em, g⟩ := good_of e1
  subst em
  have r2 := inB_t.1 e2
  have r3 := inB_t.1 e3
  obtain ⟨W2, hW2⟩ : ∃ W2, w.alloc (.cells #[.slice aL m cL, .slice aV m cV] 25) = W2 := ⟨_, rfl⟩
  have low : Below w.heap.size w W2 := by rw [← hW2]; exact below_alloc _ _
  have c0 : W2.cell? ⟨w.heap.size, 0, none⟩ = some (.slice aL m cL) := by rw [← hW2]; simp
  have c1 : W2.cell? ⟨w.heap.size, 1, none⟩ = some (.slice aV m cV) := by rw [← hW2]; simp
  have s0 : w.heap.size < W2.heap.size := by rw [← hW2]; simp
  have HL := Lib.hid (hL.below low); clear hL
  have HV := Lib.hid (hV.below low); clear hV
  have HW2 := Lib.hid hW2; clear hW2
  have LOW := Lib.hid low; clear low
  have H1 := Lib.hid e1; clear e1
  have H2 := Lib.hid e2; clear e2
  have H3 := Lib.hid e3; clear e3
  have G := Lib.hid g; clear g
  obtain ⟨qh, hqh⟩ : ∃ qh, qh = seqI (fun x => vapHi L B m x) s := ⟨_, rfl⟩
  obtain ⟨ql, hql⟩ : ∃ ql, ql = seqI (fun x => vapLo L A m x) s := ⟨_, rfl⟩
  rw [← hqh] at hh
  rw [← hql] at hl
  have RH := Lib.hid (fun j => show 0 ≤ qh j ∧ qh j ≤ 10000 by rw [hqh]; exact seqI_range (fun x hx => G.out.vapHi_range hx.1 hx.2) r2.1 r2.2 j)
  have RL := Lib.hid (fun j => show 0 ≤ ql j ∧ ql j ≤ 10000 by rw [hql]; exact seqI_range (fun x hx => G.out.vapLo_range hx.1 hx.2) r2.1 r2.2 j)
  have NH := Lib.hid (fun j => show qh (j + 1) = vapHi L B m (qh j) by rw [hqh]; rfl)
  have NL := Lib.hid (fun j => show ql (j + 1) = vapLo L A m (ql j) by rw [hql]; rfl)
  have Z1 := Lib.hid (show qh 0 = s by rw [hqh]; rfl)
  have Z2 := Lib.hid (show ql 0 = s by rw [hql]; rfl)
  clear hqh hql hE
  have VP := Lib.hid (fun y x (h : 0 ≤ x ∧ x ≤ 10000) => Calls.gw_of (rvapour_any aL aV m cL cV x x L A B (gw W2 y) G.out (HL.out.below (below_gw W2 y)) (HV.out.below (below_gw W2 y)) h.1 h.2 h.1 h.2))
  go_enter Try.func39, Try.ntmps39
  go_wp2_with fail
  rw [HW2.out]
  refine (Calls.grown (rcurve_b aL aV m m cL cV L A B W2 hn hm HL.out HV.out H1.out)).mono ?_
  rintro e w1 ⟨rfl, y, rfl⟩
  go_wp2_with fail
  refine (rin_b _ _ _ _ H2.out).mono ?_
  rintro e w1 ⟨rfl, rfl⟩
  go_wp2_with fail
  refine (rin_b _ _ _ _ H3.out).mono ?_
  rintro e w1 ⟨rfl, rfl⟩
  go_wp2_with fail
  go_loopw [9, 10, 11, 12, 13] (fun p q lo hi n wr => ∃ j : Nat, j ≤ 101 ∧ n = .int .i64 j ∧ p = .int .i64 (cntJ qh t j) ∧ q = .int .i64 (cntJ ql t j) ∧ lo = .int .i64 (ql j) ∧ hi = .int .i64 (qh j) ∧ ∃ x, wr = gw W2 x) (fun _ _ _ _ n _ => 101 - (intOf n).toNat)
  case atStart => exact ⟨0, by omega, rfl, by rw [cntJ_zero], by rw [cntJ_zero], by rw [Z2.out], by rw [Z1.out], y, rfl⟩
  case round =>
    obtain ⟨j, hj, rfl, rfl, rfl, rfl, rfl, x, rfl⟩ := hrel
    by_cases hlt : j < 101
    · have ch' := cntJ_cases qh t j
      have cl' := cntJ_cases ql t j
      have rh := RH.out j
      have rl := RL.out j
      have nh := NH.out j
      have nl := NL.out j
      obtain ⟨P1, hP1⟩ : ∃ P1, cntJ qh t (j + 1) = P1 := ⟨_, rfl⟩
      obtain ⟨Q1, hQ1⟩ : ∃ Q1, cntJ ql t (j + 1) = Q1 := ⟨_, rfl⟩
      obtain ⟨X1, hX1⟩ : ∃ X1, qh (j + 1) = X1 := ⟨_, rfl⟩
      obtain ⟨Y1, hY1⟩ : ∃ Y1, ql (j + 1) = Y1 := ⟨_, rfl⟩
      rw [hP1] at ch'
      rw [hQ1] at cl'
      rw [hX1] at nh
      rw [hY1] at nl
      have EP1 := Lib.hid hP1
      have EQ1 := Lib.hid hQ1
      have EX1 := Lib.hid hX1
      have EY1 := Lib.hid hY1
      clear hP1 hQ1 hX1 hY1
      generalize cntJ qh t j = P0 at *
      generalize cntJ ql t j = Q0 at *
      generalize qh j = X0 at *
      generalize ql j = Y0 at *
      have CH := Lib.hid ch'
      have CL := Lib.hid cl'
      have NH0 := Lib.hid nh
      have NL0 := Lib.hid nl
      clear ch' cl' nh nl
      rcases CH.out with ⟨h1, eh⟩ | ⟨h1, h2, eh⟩ | ⟨h1, h2, eh⟩
      all_goals
        have EHJ := Lib.hid eh
        clear eh
        rcases CL.out with ⟨l1, el⟩ | ⟨l1, l2, el⟩ | ⟨l1, l2, el⟩
        all_goals
          have ELJ := Lib.hid el
          clear el
          go_wp2_with fail
          refine (VP.out _ _ rl).mono ?_
          rintro e w1 ⟨rfl, x1, rfl⟩
          go_wp2_with fail
          refine (VP.out _ _ rh).mono ?_
          rintro e w1 ⟨rfl, x2, rfl⟩
          go_wp2_with fail
          go_roundw
          case rel => exact ⟨j + 1, by omega, by go_num, by rw [← EHJ.out]; rw [EP1.out], by rw [← ELJ.out]; rw [EQ1.out], by rw [← NL0.out]; rw [EY1.out], by rw [← NH0.out]; rw [EX1.out], x2, rfl⟩
          case measure => simp [intOf]; omega
    · obtain rfl : j = 101 := by omega
      have e1 : cntJ qh t 101 = ch := by rw [cntJ_end]; exact hh.eq
      have e2 : cntJ ql t 101 = cl := by rw [cntJ_end]; exact hl.eq
      rw [e1, e2]
      clear e1 e2
      by_cases hneg : ch < 0
      all_goals
        go_wp2_with fail
        go_ret3
        first
          | exact ⟨by unfold PlatesEnd; rw [if_pos hneg]; rfl, LOW.out.gw x⟩
          | exact ⟨by unfold PlatesEnd; rw [if_neg (by omega)]; rfl, LOW.out.gw x⟩
end Go.Proofs.Ytnmldophadanbaa
