/- Contracts of Plates, Vapour. No conditions beyond each theorem's own. -/
import Derived.Test.YtnmldophadanbaaWs
import Derived.Test.YtnmldophadanbaaLl
set_option linter.unusedVariables false
set_option linter.unusedSimpArgs false
set_option linter.unusedSectionVars false
set_option linter.constructorNameAsVariable false
namespace Go.Proofs.Ytnmldophadanbaa
open Go.RowKit

attribute [local go_sem] gw_cell gw_frozen gw_size

/-- a curve and two numbers were boxed -/
structure PB (w W : World) (aL aV : Option Addr) (n m cL cV : Nat) (s t : Int) : Prop where
  c0 : W.cell? ⟨w.heap.size, 0, none⟩ = some (.slice aL n cL)
  c1 : W.cell? ⟨w.heap.size, 1, none⟩ = some (.slice aV m cV)
  p0 : W.cell? ⟨w.heap.size + 1, 0, none⟩ = some (.int .i64 s)
  p1 : W.cell? ⟨w.heap.size + 1 + 1, 0, none⟩ = some (.int .i64 t)
  sz : w.heap.size + 3 ≤ W.heap.size
  low : Below w.heap.size w W
theorem pb_of (w : World) (aL aV : Option Addr) (n m cL cV : Nat) (s t : Int) (a b : TypeId) : PB w (((w.alloc (.cells #[.slice aL n cL, .slice aV m cV] a)).alloc (.cells #[.int .i64 s] b)).alloc (.cells #[.int .i64 t] b)) aL aV n m cL cV s t :=
  ⟨by simp [go_sem], by simp [go_sem], by simp [go_sem], by simp [go_sem], by simp, (((Below.refl _ w).alloc (Nat.le_refl _) _).alloc (by simp) _).alloc (by simp; omega) _⟩

def platesErr (n m : Nat) (L A B : Nat → Int) (s t : Int) : Int := if curveB n m L A B then (if inB s 0 10000 && inB t 0 10000 then 0 else 2) else 1

set_option maxRecDepth 100000 in
set_option maxHeartbeats 1000000 in
theorem plates_err (aL aV : Option Addr) (n m cL cV : Nat) (L A B : Nat → Int) (s t : Int) (w : World) (hn : n ≤ 1000000000000) (hm : m ≤ 1000000000000) (hL : IntsAt w aL n L) (hV : SpansAt w aV m A B) (x : Int) (hE : platesErr n m L A B s t = x) (hx : x ≠ 0) :
    Calls Try.prog 34 #[.agg #[.slice aL n cL, .slice aV m cV], .int .i64 s, .int .i64 t] w fun e w' => e = .returned (.tuple #[.int .i64 0, .int .i64 0, .int .i64 x]) ∧ Below w.heap.size w w' := by
  obtain ⟨W2, hW2⟩ : ∃ W2, ((w.alloc (.cells #[.slice aL n cL, .slice aV m cV] 25)).alloc (.cells #[.int .i64 s] 3)).alloc (.cells #[.int .i64 t] 3) = W2 := ⟨_, rfl⟩
  have pb : PB w W2 aL aV n m cL cV s t := by rw [← hW2]; exact pb_of w aL aV n m cL cV s t _ _
  have HL := Lib.hid (hL.below pb.low); clear hL
  have HV := Lib.hid (hV.below pb.low); clear hV
  have HW2 := Lib.hid hW2; clear hW2
  obtain ⟨c0, c1, p0, p1, sz, low⟩ := pb
  have LOW := Lib.hid low; clear low
  have s0 : w.heap.size < W2.heap.size := by omega
  have s1 : w.heap.size + 1 < W2.heap.size := by omega
  have s2 : w.heap.size + 1 + 1 < W2.heap.size := by omega
  cases hc : curveB n m L A B with
  | false =>
    obtain rfl : x = 1 := by rw [← hE]; unfold platesErr; rw [hc]; rfl
    clear hE hx
    have H1 := Lib.hid hc; clear hc
    go_enter Try.func34, Try.ntmps34
    go_wp2_with fail
    rw [HW2.out]
    refine (Calls.grown (isCurve_b aL aV n m cL cV L A B W2 hn hm HL.out HV.out H1.out)).mono ?_
    rintro e w1 ⟨rfl, y, rfl⟩
    go_wp2_with fail
    go_ret3
    exact ⟨rfl, LOW.out.gw y⟩
  | true =>
    have H1 := Lib.hid hc
    cases h2 : inB s 0 10000 with
    | false =>
      obtain rfl : x = 2 := by rw [← hE]; unfold platesErr; rw [hc, h2]; rfl
      clear hE hx hc
      have H2 := Lib.hid h2; clear h2
      go_enter Try.func34, Try.ntmps34
      go_wp2_with fail
      rw [HW2.out]
      refine (Calls.grown (isCurve_b aL aV n m cL cV L A B W2 hn hm HL.out HV.out H1.out)).mono ?_
      rintro e w1 ⟨rfl, y, rfl⟩
      go_wp2_with fail
      refine (within_b _ _ _ _ H2.out).mono ?_
      rintro e w1 ⟨rfl, rfl⟩
      go_wp2_with fail
      go_ret3
      exact ⟨rfl, LOW.out.gw y⟩
    | true =>
      have H2 := Lib.hid h2
      cases h3 : inB t 0 10000 with
      | false =>
        obtain rfl : x = 2 := by rw [← hE]; unfold platesErr; rw [hc, h2, h3]; rfl
        clear hE hx hc h2
        have H3 := Lib.hid h3; clear h3
        go_enter Try.func34, Try.ntmps34
        go_wp2_with fail
        rw [HW2.out]
        refine (Calls.grown (isCurve_b aL aV n m cL cV L A B W2 hn hm HL.out HV.out H1.out)).mono ?_
        rintro e w1 ⟨rfl, y, rfl⟩
        go_wp2_with fail
        refine (within_b _ _ _ _ H2.out).mono ?_
        rintro e w1 ⟨rfl, rfl⟩
        go_wp2_with fail
        refine (within_b _ _ _ _ H3.out).mono ?_
        rintro e w1 ⟨rfl, rfl⟩
        go_wp2_with fail
        go_ret3
        exact ⟨rfl, LOW.out.gw y⟩
      | true => exact absurd (by rw [← hE]; unfold platesErr; rw [hc, h2, h3]; rfl) hx

theorem plates_valid {n m : Nat} {L A B : Nat → Int} {s t : Int} (h : platesErr n m L A B s t = 0) : curveB n m L A B = true ∧ inB s 0 10000 = true ∧ inB t 0 10000 = true := by
  unfold platesErr at h
  split at h
  · rename_i h1
    split at h
    · rename_i h2
      simp only [Bool.and_eq_true] at h2
      exact ⟨h1, h2.1, h2.2⟩
    · omega
  · omega

/-- what Plates returns -/
def PlatesEnd (ch cl : Int) (e : Ending) : Prop := e = .returned (if ch < 0 then .tuple #[.int .i64 0, .int .i64 0, .int .i64 12] else .tuple #[.int .i64 ch, .int .i64 cl, .int .i64 0])

set_option maxRecDepth 100000 in
set_option maxHeartbeats 1000000 in
theorem plates_ok (aL aV : Option Addr) (n m cL cV : Nat) (L A B : Nat → Int) (s t : Int) (w : World) (hn : n ≤ 1000000000000) (hm : m ≤ 1000000000000) (hL : IntsAt w aL n L) (hV : SpansAt w aV m A B) (hE : platesErr n m L A B s t = 0)
    (ch cl : Int) (hh : CountIs (seqI (fun x => vapHi L B n x) s) t ch) (hl : CountIs (seqI (fun x => vapLo L A n x) s) t cl) :
    Calls Try.prog 34 #[.agg #[.slice aL n cL, .slice aV m cV], .int .i64 s, .int .i64 t] w fun e w' => PlatesEnd ch cl e ∧ Below w.heap.size w w' := by
  have hmf : ∀ (fn : Fn) (first cap : Array Value) (w : World), (Instr.makeFunc fn first cap).run Try.prog w = .ok (.func fn first cap) w := fun _ _ _ _ => rfl
  obtain ⟨W2, hW2⟩ : ∃ W2, ((w.alloc (.cells #[.slice aL n cL, .slice aV m cV] 25)).alloc (.cells #[.int .i64 s] 3)).alloc (.cells #[.int .i64 t] 3) = W2 := ⟨_, rfl⟩
  have pb : PB w W2 aL aV n m cL cV s t := by rw [← hW2]; exact pb_of w aL aV n m cL cV s t _ _
  obtain ⟨e1, e2, e3⟩ := plates_valid hE
  obtain ⟨em, g⟩ := good_of e1
  subst em
  have r2 := inB_t.1 e2
  have r3 := inB_t.1 e3
  have hL2 := hL.below pb.low
  have hV2 := hV.below pb.low
  have two := g.two
  have HL := Lib.hid hL2
  have HV := Lib.hid hV2
  have hCA : ∃ b off bv offv, CurveAt W2 w.heap.size b off bv offv m cL cV L A B := by
    rcases hL2 with h | ⟨b, off, rfl, hb, hls⟩
    · omega
    rcases hV2 with h | ⟨bv, offv, rfl, hbv, hvs⟩
    · omega
    exact ⟨b, off, bv, offv, by have := pb.sz; omega, pb.c0, pb.c1, hb, hbv, hls, hvs⟩
  obtain ⟨b, off, bv, offv, hC⟩ := hCA
  have CH := Lib.hid (fun y => show Calls Try.prog 58 #[.func (.func 59) #[] #[], .pointer (some ⟨w.heap.size + 1, 0, none⟩), .pointer (some ⟨w.heap.size + 1 + 1, 0, none⟩), .pointer (some ⟨w.heap.size, 0, none⟩)] (gw W2 y) fun e w' => e = .returned (.int .i64 ch) ∧ ∃ x, w' = gw W2 x by
    rw [← hh.eq]; exact Calls.gw_of (count_hi (w.heap.size + 1) (w.heap.size + 1 + 1) w.heap.size b off bv offv m cL cV s t L A B _ g (hC.gw y) r2.1 r2.2 ((gw_cell (by have := pb.sz; show w.heap.size + 1 < _; omega)).trans pb.p0) ((gw_cell (by have := pb.sz; show w.heap.size + 1 + 1 < _; omega)).trans pb.p1)))
  have CL := Lib.hid (fun y => show Calls Try.prog 58 #[.func (.func 60) #[] #[], .pointer (some ⟨w.heap.size + 1, 0, none⟩), .pointer (some ⟨w.heap.size + 1 + 1, 0, none⟩), .pointer (some ⟨w.heap.size, 0, none⟩)] (gw W2 y) fun e w' => e = .returned (.int .i64 cl) ∧ ∃ x, w' = gw W2 x by
    rw [← hl.eq]; exact Calls.gw_of (count_lo (w.heap.size + 1) (w.heap.size + 1 + 1) w.heap.size b off bv offv m cL cV s t L A B _ g (hC.gw y) r2.1 r2.2 ((gw_cell (by have := pb.sz; show w.heap.size + 1 < _; omega)).trans pb.p0) ((gw_cell (by have := pb.sz; show w.heap.size + 1 + 1 < _; omega)).trans pb.p1)))
  have H1 := Lib.hid e1; clear e1
  have H2 := Lib.hid e2; clear e2
  have H3 := Lib.hid e3; clear e3
  have HW2 := Lib.hid hW2; clear hW2 hL hV hL2 hV2 hE hC hh hl g
  obtain ⟨c0, c1, p0, p1, sz, low⟩ := pb
  have LOW := Lib.hid low; clear low
  have s0 : w.heap.size < W2.heap.size := by omega
  have s1 : w.heap.size + 1 < W2.heap.size := by omega
  have s2 : w.heap.size + 1 + 1 < W2.heap.size := by omega
  by_cases hneg : ch < 0
  all_goals
    go_enter Try.func34, Try.ntmps34
    go_wp2_with fail
    rw [HW2.out]
    refine (Calls.grown (isCurve_b aL aV m m cL cV L A B W2 hn hm HL.out HV.out H1.out)).mono ?_
    rintro e w1 ⟨rfl, y, rfl⟩
    go_wp2_with fail
    refine (within_b _ _ _ _ H2.out).mono ?_
    rintro e w1 ⟨rfl, rfl⟩
    go_wp2_with fail
    refine (within_b _ _ _ _ H3.out).mono ?_
    rintro e w1 ⟨rfl, rfl⟩
    go_wp2_with fail
    refine (CH.out y).mono ?_
    rintro e w1 ⟨rfl, y1, rfl⟩
    go_wp2_with fail
    refine (CL.out y1).mono ?_
    rintro e w1 ⟨rfl, y2, rfl⟩
    go_wp2_with fail
    go_ret3
    first
      | exact ⟨by unfold PlatesEnd; rw [if_pos hneg]; rfl, LOW.out.gw y2⟩
      | exact ⟨by unfold PlatesEnd; rw [if_neg (by omega)]; rfl, LOW.out.gw y2⟩

set_option maxRecDepth 100000 in
set_option maxHeartbeats 1000000 in
theorem vapourP_ok (aL aV : Option Addr) (n cL cV : Nat) (L A B : Nat → Int) (lo hi : Int) (w : World) (hn : n ≤ 1000000000000) (hL : IntsAt w aL n L) (hV : SpansAt w aV n A B) (hc : curveB n n L A B = true) (hs : spanB lo hi 0 10000 = true)
    (a b : Int) (HA : Hid (vapLo L A n lo = a)) (HB : Hid (vapHi L B n hi = b)) :
    Calls Try.prog 27 #[.agg #[.slice aL n cL, .slice aV n cV], .agg #[.int .i64 lo, .int .i64 hi]] w fun e w' => e = .returned (.tuple #[.agg #[.int .i64 a, .int .i64 b], .int .i64 0]) ∧ Below w.heap.size w w' := by
  obtain ⟨W2, hW2⟩ : ∃ W2, ((w.alloc (.cells #[.slice aL n cL, .slice aV n cV] 25)).alloc (.cells #[.int .i64 lo, .int .i64 hi] 27)).alloc (.cells #[.int .i64 0, .int .i64 0] 27) = W2 := ⟨_, rfl⟩
  have low : Below w.heap.size w W2 := by rw [← hW2]; exact (((Below.refl _ w).alloc (Nat.le_refl _) _).alloc (by simp) _).alloc (by simp; omega) _
  have c0 : W2.cell? ⟨w.heap.size, 0, none⟩ = some (.slice aL n cL) := by rw [← hW2]; simp [go_sem]
  have c1 : W2.cell? ⟨w.heap.size, 1, none⟩ = some (.slice aV n cV) := by rw [← hW2]; simp [go_sem]
  have p0 : W2.cell? ⟨w.heap.size + 1, 0, none⟩ = some (.int .i64 lo) := by rw [← hW2]; simp [go_sem]
  have p1 : W2.cell? ⟨w.heap.size + 1, 1, none⟩ = some (.int .i64 hi) := by rw [← hW2]; simp [go_sem]
  have sz : w.heap.size + 3 ≤ W2.heap.size := by rw [← hW2]; simp
  have q0 : W2.cell? ⟨w.heap.size + 1 + 1, 0, none⟩ = some (.int .i64 0) := by rw [← hW2]; simp [go_sem]
  have q1 : W2.cell? ⟨w.heap.size + 1 + 1, 1, none⟩ = some (.int .i64 0) := by rw [← hW2]; simp [go_sem]
  have q2 : W2.frozen? ⟨w.heap.size + 1 + 1, 0, none⟩ = false := by rw [← hW2]; simp [go_sem]
  have q3 : W2.frozen? ⟨w.heap.size + 1 + 1, 1, none⟩ = false := by rw [← hW2]; simp [go_sem]
  obtain ⟨_, g⟩ := good_of hc
  have two := g.two
  have rs := spanB_t.1 hs
  have hL2 := hL.below low
  have hV2 := hV.below low
  have HL := Lib.hid hL2
  have HV := Lib.hid hV2
  have hCA : ∃ b off bv offv, CurveAt W2 w.heap.size b off bv offv n cL cV L A B := by
    rcases hL2 with h | ⟨b, off, rfl, hb, hls⟩
    · omega
    rcases hV2 with h | ⟨bv, offv, rfl, hbv, hvs⟩
    · omega
    exact ⟨b, off, bv, offv, by omega, c0, c1, hb, hbv, hls, hvs⟩
  obtain ⟨b', off, bv, offv, hC⟩ := hCA
  have V := Lib.hid (fun y => show Calls Try.prog 55 #[.pointer (some ⟨w.heap.size, 0, none⟩), .agg #[.int .i64 lo, .int .i64 hi]] (gw W2 y) (fun e w' => e = .returned (.agg #[.int .i64 a, .int .i64 b]) ∧ ∃ x', w' = gw W2 x') by
    rw [← HA.out, ← HB.out]; exact Calls.gw_of (vapour_any w.heap.size b' off bv offv n cL cV lo hi L A B _ g (hC.gw y) (by omega) (by omega) (by omega) (by omega)))
  have H1 := Lib.hid hc; clear hc
  have H2 := Lib.hid hs; clear hs
  have HW2 := Lib.hid hW2; clear hW2 hL hV hL2 hV2 hC g HA HB
  have LOW := Lib.hid low; clear low
  have s0 : w.heap.size < W2.heap.size := by omega
  have s1 : w.heap.size + 1 < W2.heap.size := by omega
  have s2 : w.heap.size + 1 + 1 < W2.heap.size := by omega
  go_enter Try.func27, Try.ntmps27
  go_wp2_with fail
  rw [HW2.out]
  refine (Calls.grown (isCurve_b aL aV n n cL cV L A B W2 hn hn HL.out HV.out H1.out)).mono ?_
  rintro e w1 ⟨rfl, y, rfl⟩
  go_wp2_with fail
  refine (Calls.gw_of (isSpan_b _ _ _ _ _ H2.out)).mono ?_
  rintro e w1 ⟨rfl, y1, rfl⟩
  go_wp2_with fail
  refine (V.out y1).mono ?_
  clear V
  rintro e w1 ⟨rfl, y2, rfl⟩
  go_wp2_with fail
  refine bodyPost_ret (v := .tuple #[.agg #[.int .i64 a, .int .i64 b], .int .i64 0]) (by simp [results, Try.results27, go_sem, q0, q1, s2]) rfl ⟨rfl, ?_⟩
  exact ((LOW.out.gw y2).setCell (by simp; omega) _).setCell (by simp; omega) _
end Go.Proofs.Ytnmldophadanbaa
