/- Contracts of the reference's strong, vapour, Vapour, Check; of Check. No conditions beyond each theorem's own. -/
import Derived.Test.YtnmldophadanbaaNb
import Derived.Test.YtnmldophadanbaaWt
set_option linter.unusedVariables false
set_option linter.unusedSimpArgs false
set_option linter.unusedSectionVars false
set_option linter.constructorNameAsVariable false
namespace Go.Proofs.Ytnmldophadanbaa
open Go.RowKit

attribute [local go_sem] gw_cell gw_frozen gw_size

theorem Good.strict {n : Nat} {L A B : Nat → Int} (g : Good n L A B) : ∀ s t, s < t → t < n → L s < L t := fun s t hst ht => by
  have h1 := g.inc s (by omega)
  have h2 := g.mono (s + 1) t (by omega) ht
  omega

/-- the reference looks in the same segment -/
theorem rseg_seg {n : Nat} {L A B : Nat → Int} (g : Good n L A B) {x : Int} (h0 : 0 ≤ x) (h1 : x ≤ 10000) : RSeg L n (segI L n x) x 1 := by
  obtain ⟨s1, s2, s3⟩ := g.seg h0 h1
  refine ⟨s1, fun t ht => ⟨by omega, ?_⟩, fun ⟨h2, h3⟩ => ?_⟩
  · have := g.mono (t + 1) (segI L n x) (by omega) (by omega)
    omega
  · have e : L (segI L n x + 1) = x := by omega
    have hl : segI L n x + 1 = lb L x n := lb_unique (by omega) (fun t ht => by rw [← e]; exact g.strict _ _ ht s1) (fun _ => by omega)
    have hf : foundB L x n = true := by
      unfold foundB
      rw [← hl]
      simp [e]; omega
    have : segI L n x = min (lb L x n) (n - 2) := by unfold segI; rw [if_pos hf]
    rw [← hl] at this
    omega
theorem rnum_one (L E : Nat → Int) (n : Nat) (x : Int) : rnum L E (segI L n x) x 1 = lineNum L E n x := by
  unfold rnum lineNum lineDen; simp
theorem rden_one (L : Nat → Int) (n : Nat) (x : Int) : rden L (segI L n x) 1 = lineDen L n x := by
  unfold rden lineDen; simp

section
variable (aL aV : Option Addr) (n cL cV : Nat) (L A B : Nat → Int) (w : World) (g : Good n L A B) (hL : IntsAt w aL n L) (hV : SpansAt w aV n A B) (x : Int) (h0 : 0 ≤ x) (h1 : x ≤ 10000)
include g hL hV h0 h1
theorem rline1_lo : Calls Try.prog 52 #[.agg #[.slice aL n cL, .slice aV n cV], .bool false, .int .i64 x, .int .i64 1] w fun e w' => e = .returned (.tuple #[.int .i64 (lineNum L A n x), .int .i64 (lineDen L n x)]) ∧ Below w.heap.size w w' := by
  have := rline_lo aL aV n cL cV _ x 1 L A B w g hL hV (rseg_seg g h0 h1) h0 (by omega) (by omega) (by omega)
  rwa [rnum_one, rden_one] at this
theorem rline1_hi : Calls Try.prog 52 #[.agg #[.slice aL n cL, .slice aV n cV], .bool true, .int .i64 x, .int .i64 1] w fun e w' => e = .returned (.tuple #[.int .i64 (lineNum L B n x), .int .i64 (lineDen L n x)]) ∧ Below w.heap.size w w' := by
  have := rline_hi aL aV n cL cV _ x 1 L A B w g hL hV (rseg_seg g h0 h1) h0 (by omega) (by omega) (by omega)
  rwa [rnum_one, rden_one] at this
end

set_option maxRecDepth 100000 in
set_option maxHeartbeats 1000000 in
theorem rvapour_any (aL aV : Option Addr) (n cL cV : Nat) (lo hi : Int) (L A B : Nat → Int) (w : World) (g : Good n L A B) (hL : IntsAt w aL n L) (hV : SpansAt w aV n A B)
    (h0 : 0 ≤ lo) (h1 : lo ≤ 10000) (h2 : 0 ≤ hi) (h3 : hi ≤ 10000) :
    Calls Try.prog 56 #[.agg #[.slice aL n cL, .slice aV n cV], .agg #[.int .i64 lo, .int .i64 hi]] w fun e w' => e = .returned (.agg #[.int .i64 (vapLo L A n lo), .int .i64 (vapHi L B n hi)]) ∧ Below w.heap.size w w' := by
  have d1 := g.den h0 h1
  have d2 := g.den h2 h3
  have m1 := lineNum_nonneg g (fun i hi => ⟨(g.range i hi).2.2.1, (g.range i hi).2.2.2.1⟩) h0 h1 (E := A)
  have m2 := lineNum_nonneg g (fun i hi => ⟨(g.range i hi).2.2.2.2.1, (g.range i hi).2.2.2.2.2⟩) h2 h3 (E := B)
  have nz : ¬ lineDen L n lo = 0 := by omega
  have HLa := Lib.hid (show vapLo L A n lo = lineNum L A n lo / lineDen L n lo from rfl)
  have HHa := Lib.hid (show vapHi L B n hi = upI (lineNum L B n hi) (lineDen L n hi) from rfl)
  obtain ⟨W1, hW1⟩ : ∃ W1, ((w.alloc (.cells #[.slice aL n cL, .slice aV n cV] 25)).alloc (.cells #[.int .i64 lo, .int .i64 hi] 27)).alloc (.cells #[.int .i64 0, .int .i64 0] 27) = W1 := ⟨_, rfl⟩
  have hB1 : Below w.heap.size w W1 := by rw [← hW1]; exact ((below_alloc _ _).alloc (by simp) _).alloc (by simp; omega) _
  have c0 : W1.cell? ⟨w.heap.size, 0, none⟩ = some (.slice aL n cL) := by rw [← hW1]; simp [go_sem]
  have c1 : W1.cell? ⟨w.heap.size, 1, none⟩ = some (.slice aV n cV) := by rw [← hW1]; simp [go_sem]
  have s0 : W1.cell? ⟨w.heap.size + 1, 0, none⟩ = some (.int .i64 lo) := by rw [← hW1]; simp [go_sem]
  have s1 : W1.cell? ⟨w.heap.size + 1, 1, none⟩ = some (.int .i64 hi) := by rw [← hW1]; simp [go_sem]
  have r0 : W1.cell? ⟨w.heap.size + 1 + 1, 0, none⟩ = some (.int .i64 0) := by rw [← hW1]; simp [go_sem]
  have r1 : W1.cell? ⟨w.heap.size + 1 + 1, 1, none⟩ = some (.int .i64 0) := by rw [← hW1]; simp [go_sem]
  have q0 : W1.frozen? ⟨w.heap.size + 1 + 1, 0, none⟩ = false := by rw [← hW1]; simp [go_sem]
  have q1 : W1.frozen? ⟨w.heap.size + 1 + 1, 1, none⟩ = false := by rw [← hW1]; simp [go_sem]
  have z0 : w.heap.size < W1.heap.size := by rw [← hW1]; simp; omega
  have z1 : w.heap.size + 1 < W1.heap.size := by rw [← hW1]; simp
  have z2 : w.heap.size + 1 + 1 < W1.heap.size := by rw [← hW1]; simp
  have CA := Lib.hid (fun y => Calls.gw_of (rline1_lo aL aV n cL cV L A B (gw W1 y) g ((hL.below hB1).below (below_gw W1 y)) ((hV.below hB1).below (below_gw W1 y)) lo h0 h1))
  have CB := Lib.hid (fun y => Calls.gw_of (rline1_hi aL aV n cL cV L A B (gw W1 y) g ((hL.below hB1).below (below_gw W1 y)) ((hV.below hB1).below (below_gw W1 y)) hi h2 h3))
  have CA0 := Lib.hid (Calls.grown (rline1_lo aL aV n cL cV L A B W1 g (hL.below hB1) (hV.below hB1) lo h0 h1))
  have HB := Lib.hid hB1
  have HW1 := Lib.hid hW1
  clear hW1 hB1 hL hV g
  go_enter Try.func56, Try.ntmps56
  go_wp2_with fail
  rw [HW1.out]
  refine CA0.out.mono ?_
  rintro e w1 ⟨rfl, x, rfl⟩
  go_wp2_with fail
  refine (CB.out x).mono ?_
  rintro e w1 ⟨rfl, y, rfl⟩
  go_wp2_with fail
  refine wp_region_gw_tail2 7 (by kernel_rfl) (by kernel_rfl) ?_
  simp only [List.take_succ_cons, List.take_zero]
  repeat (go_big_quiet_step (((go_at_call 63; exact Calls.gw_of_same ((rup_any _ _ _ (by omega) (by omega) (by omega) (by omega)))))))
  refine wpQuiet_nil ?_
  rintro _ ⟨z, rfl⟩
  simp only [List.drop_succ_cons, List.drop_zero]
  go_wp2
  rw [HLa.out, HHa.out]
  refine bodyPost_ret (v := .agg #[.int .i64 (lineNum L A n lo / lineDen L n lo), .int .i64 (upI (lineNum L B n hi) (lineDen L n hi))]) (by simp [results, Try.results56, go_sem, r0, r1, z2]) rfl ⟨rfl, ?_⟩
  exact ((HB.out.gw z).setCell (by simp; omega) _).setCell (by simp; omega) _
end Go.Proofs.Ytnmldophadanbaa
