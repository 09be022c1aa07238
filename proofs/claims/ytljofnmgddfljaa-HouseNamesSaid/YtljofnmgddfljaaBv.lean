/- Contracts of isRegauge, part, measured; of the reference's Valid, Measured. No conditions beyond each theorem's own. -/
import Derived.Test.YtljofnmgddfljaaBr
set_option linter.unusedVariables false
set_option linter.unusedSimpArgs false
set_option linter.unusedSectionVars false
set_option linter.constructorNameAsVariable false
namespace Go.Proofs.Ytljofnmgddfljaa
open Go.RowKit

attribute [local go_sem] gw_cell gw_frozen gw_size

/-- a measurement -/
structure Reg where
  day : Int
  vlo : Int
  vhi : Int
  slo : Int
  shi : Int
def Reg.val (x : Reg) : Value := .agg #[.int .i64 x.day, .int .i64 x.vlo, .int .i64 x.vhi, .int .i64 x.slo, .int .i64 x.shi]
def regB (x : Reg) : Bool := inB x.day 0 65536 && (spanB x.vlo x.vhi 0 2147483648 && spanB x.slo x.shi 0 10000)
theorem regB_t {x : Reg} (h : regB x = true) : (0 ≤ x.day ∧ x.day ≤ 65536) ∧ (0 ≤ x.vlo ∧ x.vlo ≤ x.vhi ∧ x.vhi ≤ 2147483648) ∧ (0 ≤ x.slo ∧ x.slo ≤ x.shi ∧ x.shi ≤ 10000) := by
  simp only [regB, Bool.and_eq_true] at h
  exact ⟨inB_t.1 h.1, spanB_t.1 h.2.1, spanB_t.1 h.2.2⟩

set_option maxHeartbeats 1000000 in
theorem isRegauge_any (x : Reg) (w : World) :
    Calls Try.prog 81 #[.agg #[.int .i64 x.day, .int .i64 x.vlo, .int .i64 x.vhi, .int .i64 x.slo, .int .i64 x.shi]] w fun e w' => e = .returned (.bool (regB x)) ∧ Below w.heap.size w w' := by
  obtain ⟨W1, hW1⟩ : ∃ W1, w.alloc (.cells #[.int .i64 x.day, .int .i64 x.vlo, .int .i64 x.vhi, .int .i64 x.slo, .int .i64 x.shi] 44) = W1 := ⟨_, rfl⟩
  have hB : Below w.heap.size w W1 := by rw [← hW1]; exact below_alloc _ _
  have hk : W1.heap[w.heap.size]? = some (.cells #[.int .i64 x.day, .int .i64 x.vlo, .int .i64 x.vhi, .int .i64 x.slo, .int .i64 x.shi] 44 (0, 0)) := by rw [← hW1]; exact World.alloc_heap_new w _
  have k0 : W1.cell? ⟨w.heap.size, 0, none⟩ = some (.int .i64 x.day) := cell_of_block hk 0 (by simp)
  have k1 : W1.cell? ⟨w.heap.size, 1, none⟩ = some (.int .i64 x.vlo) := cell_of_block hk 1 (by simp)
  have k2 : W1.cell? ⟨w.heap.size, 2, none⟩ = some (.int .i64 x.vhi) := cell_of_block hk 2 (by simp)
  have k3 : W1.cell? ⟨w.heap.size, 3, none⟩ = some (.int .i64 x.slo) := cell_of_block hk 3 (by simp)
  have k4 : W1.cell? ⟨w.heap.size, 4, none⟩ = some (.int .i64 x.shi) := cell_of_block hk 4 (by simp)
  have lt := (Array.getElem?_eq_some_iff.1 hk).1
  have HB := Lib.hid hB; clear hB hk
  have HW1 := Lib.hid hW1; clear hW1
  cases h1 : inB x.day 0 65536 with
  | false =>
    have RB := Lib.hid (show regB x = false by unfold regB; rw [h1]; rfl)
    have H1 := Lib.hid h1; clear h1
    go_enter Try.func81, Try.ntmps81
    go_wp2_with fail
    rw [HW1.out]
    go_wp2_with fail
    refine (within_b _ _ _ _ H1.out).mono ?_
    rintro e w1 ⟨rfl, rfl⟩
    go_wp2_with fail
    go_ret
    exact ⟨by rw [RB.out]; rfl, HB.out⟩
  | true =>
    cases h2 : spanB x.vlo x.vhi 0 2147483648 with
    | false =>
      have RB := Lib.hid (show regB x = false by unfold regB; rw [h1, h2]; rfl)
      have H1 := Lib.hid h1; clear h1
      have H2 := Lib.hid h2; clear h2
      go_enter Try.func81, Try.ntmps81
      go_wp2_with fail
      rw [HW1.out]
      go_wp2_with fail
      refine (within_b _ _ _ _ H1.out).mono ?_
      rintro e w1 ⟨rfl, rfl⟩
      go_wp2_with fail
      refine (Calls.grown (isSpan_b _ _ _ _ _ H2.out)).mono ?_
      rintro e w1 ⟨rfl, y, rfl⟩
      go_wp2_with fail
      go_ret
      exact ⟨by rw [RB.out]; rfl, HB.out.gw y⟩
    | true =>
      cases h3 : spanB x.slo x.shi 0 10000
      all_goals
        have RB := Lib.hid (show regB x = _ by unfold regB; rw [h1, h2, h3])
        have H1 := Lib.hid h1; clear h1
        have H2 := Lib.hid h2; clear h2
        have H3 := Lib.hid h3; clear h3
        go_enter Try.func81, Try.ntmps81
        go_wp2_with fail
        rw [HW1.out]
        go_wp2_with fail
        refine (within_b _ _ _ _ H1.out).mono ?_
        rintro e w1 ⟨rfl, rfl⟩
        go_wp2_with fail
        refine (Calls.grown (isSpan_b _ _ _ _ _ H2.out)).mono ?_
        rintro e w1 ⟨rfl, y, rfl⟩
        go_wp2_with fail
        refine (Calls.gw_of (isSpan_b _ _ _ _ _ H3.out)).mono ?_
        rintro e w1 ⟨rfl, z, rfl⟩
        go_wp2_with fail
        go_ret
        exact ⟨by rw [RB.out]; rfl, HB.out.gw z⟩

theorem isRegauge_b {b : Bool} (x : Reg) (w : World) (h : regB x = b) :
    Calls Try.prog 81 #[.agg #[.int .i64 x.day, .int .i64 x.vlo, .int .i64 x.vhi, .int .i64 x.slo, .int .i64 x.shi]] w fun e w' => e = .returned (.bool b) ∧ Below w.heap.size w w' := h ▸ isRegauge_any x w
set_option maxHeartbeats 1000000 in
theorem rValid_any (x : Reg) (w : World) :
    Calls Try.prog 55 #[.agg #[.int .i64 x.day, .int .i64 x.vlo, .int .i64 x.vhi, .int .i64 x.slo, .int .i64 x.shi]] w fun e w' => e = .returned (.bool (regB x)) ∧ Below w.heap.size w w' := by
  obtain ⟨W1, hW1⟩ : ∃ W1, w.alloc (.cells #[.int .i64 x.day, .int .i64 x.vlo, .int .i64 x.vhi, .int .i64 x.slo, .int .i64 x.shi] 44) = W1 := ⟨_, rfl⟩
  have hB : Below w.heap.size w W1 := by rw [← hW1]; exact below_alloc _ _
  have hk : W1.heap[w.heap.size]? = some (.cells #[.int .i64 x.day, .int .i64 x.vlo, .int .i64 x.vhi, .int .i64 x.slo, .int .i64 x.shi] 44 (0, 0)) := by rw [← hW1]; exact World.alloc_heap_new w _
  have k0 : W1.cell? ⟨w.heap.size, 0, none⟩ = some (.int .i64 x.day) := cell_of_block hk 0 (by simp)
  have k1 : W1.cell? ⟨w.heap.size, 1, none⟩ = some (.int .i64 x.vlo) := cell_of_block hk 1 (by simp)
  have k2 : W1.cell? ⟨w.heap.size, 2, none⟩ = some (.int .i64 x.vhi) := cell_of_block hk 2 (by simp)
  have k3 : W1.cell? ⟨w.heap.size, 3, none⟩ = some (.int .i64 x.slo) := cell_of_block hk 3 (by simp)
  have k4 : W1.cell? ⟨w.heap.size, 4, none⟩ = some (.int .i64 x.shi) := cell_of_block hk 4 (by simp)
  have lt := (Array.getElem?_eq_some_iff.1 hk).1
  have HB := Lib.hid hB; clear hB hk
  have HW1 := Lib.hid hW1; clear hW1
  cases h1 : inB x.day 0 65536 with
  | false =>
    have RB := Lib.hid (show regB x = false by unfold regB; rw [h1]; rfl)
    have H1 := Lib.hid h1; clear h1
    go_enter Try.func55, Try.ntmps55
    go_wp2_with fail
    rw [HW1.out]
    go_wp2_with fail
    refine (rin_b _ _ _ _ H1.out).mono ?_
    rintro e w1 ⟨rfl, rfl⟩
    go_wp2_with fail
    go_ret
    exact ⟨by rw [RB.out]; rfl, HB.out⟩
  | true =>
    cases h2 : spanB x.vlo x.vhi 0 2147483648 with
    | false =>
      have RB := Lib.hid (show regB x = false by unfold regB; rw [h1, h2]; rfl)
      have H1 := Lib.hid h1; clear h1
      have H2 := Lib.hid h2; clear h2
      go_enter Try.func55, Try.ntmps55
      go_wp2_with fail
      rw [HW1.out]
      go_wp2_with fail
      refine (rin_b _ _ _ _ H1.out).mono ?_
      rintro e w1 ⟨rfl, rfl⟩
      go_wp2_with fail
      refine (Calls.grown (rwithin_b _ _ _ _ _ H2.out)).mono ?_
      rintro e w1 ⟨rfl, y, rfl⟩
      go_wp2_with fail
      go_ret
      exact ⟨by rw [RB.out]; rfl, HB.out.gw y⟩
    | true =>
      cases h3 : spanB x.slo x.shi 0 10000
      all_goals
        have RB := Lib.hid (show regB x = _ by unfold regB; rw [h1, h2, h3])
        have H1 := Lib.hid h1; clear h1
        have H2 := Lib.hid h2; clear h2
        have H3 := Lib.hid h3; clear h3
        go_enter Try.func55, Try.ntmps55
        go_wp2_with fail
        rw [HW1.out]
        go_wp2_with fail
        refine (rin_b _ _ _ _ H1.out).mono ?_
        rintro e w1 ⟨rfl, rfl⟩
        go_wp2_with fail
        refine (Calls.grown (rwithin_b _ _ _ _ _ H2.out)).mono ?_
        rintro e w1 ⟨rfl, y, rfl⟩
        go_wp2_with fail
        refine (Calls.gw_of (rwithin_b _ _ _ _ _ H3.out)).mono ?_
        rintro e w1 ⟨rfl, z, rfl⟩
        go_wp2_with fail
        go_ret
        exact ⟨by rw [RB.out]; rfl, HB.out.gw z⟩

theorem rValid_b {b : Bool} (x : Reg) (w : World) (h : regB x = b) :
    Calls Try.prog 55 #[.agg #[.int .i64 x.day, .int .i64 x.vlo, .int .i64 x.vhi, .int .i64 x.slo, .int .i64 x.shi]] w fun e w' => e = .returned (.bool b) ∧ Below w.heap.size w w' := h ▸ rValid_any x w

def partLo (a s : Int) : Int := a * s / 10000
def partHi (a s : Int) : Int := upI (a * s) 10000
/-- what was measured, as a content -/
def measC (x : Reg) : Cont := ⟨x.day, partLo x.vlo x.slo, partHi x.vhi x.shi, partLo x.vlo (10000 - x.shi), partHi x.vhi (10000 - x.slo)⟩
theorem mul_le {a b c d : Int} (h0 : 0 ≤ a) (h1 : a ≤ c) (h2 : 0 ≤ b) (h3 : b ≤ d) : 0 ≤ a * b ∧ a * b ≤ c * d := ⟨Int.mul_nonneg h0 h2, Int.mul_le_mul h1 h3 h2 (by omega)⟩
theorem part_range {a s b t : Int} (h0 : 0 ≤ a) (h1 : a ≤ b) (h2 : 0 ≤ s) (h3 : s ≤ t) (h4 : t ≤ 10000) : 0 ≤ partLo a s ∧ partLo a s ≤ partHi b t ∧ partHi b t ≤ b := by
  have m := mul_le h0 h1 h2 h3
  have m2 : b * t ≤ b * 10000 := Int.mul_le_mul_of_nonneg_left h4 (by omega)
  unfold partLo partHi upI
  omega
theorem measC_ok {x : Reg} (h : regB x = true) : contB (measC x) = true := by
  obtain ⟨d, ⟨v0, v1, v2⟩, s0, s1, s2⟩ := regB_t h
  have p := part_range v0 v1 s0 s1 s2
  have q := part_range (s := 10000 - x.shi) (t := 10000 - x.slo) v0 v1 (by omega) (by omega) (by omega)
  simp only [contB, Bool.and_eq_true]
  exact ⟨inB_t.2 d, spanB_t.2 ⟨p.1, p.2.1, by show partHi x.vhi x.shi ≤ _; omega⟩, spanB_t.2 ⟨q.1, q.2.1, by show partHi x.vhi (10000 - x.slo) ≤ _; omega⟩⟩

set_option maxHeartbeats 2000000 in
theorem part_any (lo hi sl sh : Int) (w : World) (h0 : 0 ≤ lo) (h1 : lo ≤ hi) (h2 : hi ≤ 2147483648) (h3 : 0 ≤ sl) (h4 : sl ≤ sh) (h5 : sh ≤ 10000) :
    Calls Try.prog 83 #[.agg #[.int .i64 lo, .int .i64 hi], .agg #[.int .i64 sl, .int .i64 sh]] w fun e w' => e = .returned (.agg #[.int .i64 (partLo lo sl), .int .i64 (partHi hi sh)]) ∧ Below w.heap.size w w' := by
  obtain ⟨m1, m2⟩ := mul_le h0 (show lo ≤ 2147483648 by omega) h3 (show sl ≤ 10000 by omega)
  obtain ⟨m3, m4⟩ := mul_le (show 0 ≤ hi by omega) (show hi ≤ 2147483648 by omega) (show 0 ≤ sh by omega) (show sh ≤ 10000 by omega)
  have LL := Lib.hid (show partLo lo sl = lo * sl / 10000 from rfl)
  have LH := Lib.hid (show partHi hi sh = upI (hi * sh) 10000 from rfl)
  go_enter Try.func83, Try.ntmps83
  go_wp2
  refine wp_region_gw_tail 12 (by kernel_rfl) (by kernel_rfl) ?_
  simp only [List.take_succ_cons, List.take_zero]
  repeat (go_big_quiet_step (((go_at_call 85; exact Calls.gw_of_same ((up_any _ _ _ (by omega) (by omega) (by omega) (by omega)))))))
  refine wpQuiet_nil ?_
  rintro _ ⟨x, rfl⟩
  simp only [List.drop_succ_cons, List.drop_zero]
  go_wp2
  rw [LL.out, LH.out]
  refine bodyPost_ret (v := .agg #[.int .i64 (lo * sl / 10000), .int .i64 (upI (hi * sh) 10000)]) (by simp [results, Try.results83, go_sem]) rfl ⟨rfl, ?_⟩
  exact (((((((Below.refl _ w).alloc (Nat.le_refl _) _).alloc (by simp) _).alloc (by simp; omega) _).gw x).setCell (by simp <;> omega) _).setCell (by simp <;> omega) _)

set_option maxRecDepth 100000 in
set_option maxHeartbeats 2000000 in
theorem measured_any (x : Reg) (w : World) (hx : regB x = true) :
    Calls Try.prog 54 #[x.val] w fun e w' => e = .returned (measC x).val ∧ Below w.heap.size w w' := by
  obtain ⟨⟨d0, d1⟩, ⟨v0, v1, v2⟩, s0, s1, s2⟩ := regB_t hx
  clear hx
  have P1 := Lib.hid (fun W => part_any x.vlo x.vhi x.slo x.shi W v0 v1 v2 s0 s1 s2)
  have P2 := Lib.hid (fun W => part_any x.vlo x.vhi (10000 - x.shi) (10000 - x.slo) W v0 v1 v2 (by omega) (by omega) (by omega))
  rw [show (measC x).val = .agg #[.int .i64 x.day, .int .i64 (partLo x.vlo x.slo), .int .i64 (partHi x.vhi x.shi), .int .i64 (partLo x.vlo (10000 - x.shi)), .int .i64 (partHi x.vhi (10000 - x.slo))] from rfl]
  unfold Reg.val
  obtain ⟨W1, hW1⟩ : ∃ W1, ((w.alloc (.cells #[.int .i64 x.day, .int .i64 x.vlo, .int .i64 x.vhi, .int .i64 x.slo, .int .i64 x.shi] 44)).alloc (.cells #[.int .i64 0, .int .i64 0, .int .i64 0, .int .i64 0, .int .i64 0] 28)).alloc (.cells #[.int .i64 (10000 - x.shi), .int .i64 (10000 - x.slo)] 26) = W1 := ⟨_, rfl⟩
  have hBc : Below w.heap.size w W1 := by rw [← hW1]; exact ((below_alloc _ _).alloc (by simp) _).alloc (by simp <;> omega) _
  have zc0 : W1.heap[w.heap.size]? = some (.cells #[.int .i64 x.day, .int .i64 x.vlo, .int .i64 x.vhi, .int .i64 x.slo, .int .i64 x.shi] 44 (0, 0)) := by rw [← hW1]; exact alloc_keep (alloc_keep (alloc_at rfl))
  have zc1 : W1.heap[w.heap.size + 1]? = some (.cells #[.int .i64 0, .int .i64 0, .int .i64 0, .int .i64 0, .int .i64 0] 28 (0, 0)) := by rw [← hW1]; exact alloc_keep (alloc_at (by simp))
  have zc2 : W1.heap[w.heap.size + 1 + 1]? = some (.cells #[.int .i64 (10000 - x.shi), .int .i64 (10000 - x.slo)] 26 (0, 0)) := by rw [← hW1]; exact alloc_at (by simp <;> omega)
  have c00 : W1.cell? ⟨w.heap.size, 0, none⟩ = some (.int .i64 x.day) := cell_of_block zc0 0 (by simp)
  have c01 : W1.cell? ⟨w.heap.size, 1, none⟩ = some (.int .i64 x.vlo) := cell_of_block zc0 1 (by simp)
  have c02 : W1.cell? ⟨w.heap.size, 2, none⟩ = some (.int .i64 x.vhi) := cell_of_block zc0 2 (by simp)
  have c03 : W1.cell? ⟨w.heap.size, 3, none⟩ = some (.int .i64 x.slo) := cell_of_block zc0 3 (by simp)
  have c04 : W1.cell? ⟨w.heap.size, 4, none⟩ = some (.int .i64 x.shi) := cell_of_block zc0 4 (by simp)
  have c10 : W1.cell? ⟨w.heap.size + 1, 0, none⟩ = some (.int .i64 0) := cell_of_block zc1 0 (by simp)
  have c11 : W1.cell? ⟨w.heap.size + 1, 1, none⟩ = some (.int .i64 0) := cell_of_block zc1 1 (by simp)
  have c12 : W1.cell? ⟨w.heap.size + 1, 2, none⟩ = some (.int .i64 0) := cell_of_block zc1 2 (by simp)
  have c13 : W1.cell? ⟨w.heap.size + 1, 3, none⟩ = some (.int .i64 0) := cell_of_block zc1 3 (by simp)
  have c14 : W1.cell? ⟨w.heap.size + 1, 4, none⟩ = some (.int .i64 0) := cell_of_block zc1 4 (by simp)
  have c20 : W1.cell? ⟨w.heap.size + 1 + 1, 0, none⟩ = some (.int .i64 (10000 - x.shi)) := cell_of_block zc2 0 (by simp)
  have c21 : W1.cell? ⟨w.heap.size + 1 + 1, 1, none⟩ = some (.int .i64 (10000 - x.slo)) := cell_of_block zc2 1 (by simp)
  have lc0 := (Array.getElem?_eq_some_iff.1 zc0).1
  have lc1 := (Array.getElem?_eq_some_iff.1 zc1).1
  have lc2 := (Array.getElem?_eq_some_iff.1 zc2).1
  have Zc1 := Lib.hid zc1
  clear zc0 zc1 zc2
  have HBc := Lib.hid hBc; clear hBc
  have HWc := Lib.hid hW1; clear hW1
  go_enter Try.func54, Try.ntmps54
  go_wp2_with fail
  rw [HWc.out]
  refine wp_region_gw_tail 11 (by kernel_rfl) (by kernel_rfl) ?_
  simp only [List.take_succ_cons, List.take_zero]
  repeat (go_big_quiet_step ((go_at_call 83; first | (with_reducible exact Calls.gw_of (P1.out _)) | (with_reducible exact Calls.gw_of (P2.out _)))))
  refine wpQuiet_nil ?_
  rintro _ ⟨z, rfl⟩
  obtain ⟨V, hV⟩ : ∃ V, gw W1 z = V := ⟨_, rfl⟩
  have z1 := ((below_gw W1 z).block _ lc1).trans Zc1.out
  have BV := Lib.hid (HBc.out.gw z)
  rw [hV] at z1 BV ⊢
  clear hV
  have g0 := cell_of_block z1 0 (by simp)
  have g1 := cell_of_block z1 1 (by simp)
  have g2 := cell_of_block z1 2 (by simp)
  have g3 := cell_of_block z1 3 (by simp)
  have g4 := cell_of_block z1 4 (by simp)
  have f0 := frozen_of_block z1 0
  have f1 := frozen_of_block z1 1
  have f2 := frozen_of_block z1 2
  have f3 := frozen_of_block z1 3
  have f4 := frozen_of_block z1 4
  clear z1 c00 c01 c02 c03 c04 c10 c11 c12 c13 c14 c20 c21
  simp only [List.drop_succ_cons, List.drop_zero]
  go_wp2_with fail
  refine bodyPost_ret (v := .agg #[.int .i64 x.day, .int .i64 (partLo x.vlo x.slo), .int .i64 (partHi x.vhi x.shi), .int .i64 (partLo x.vlo (10000 - x.shi)), .int .i64 (partHi x.vhi (10000 - x.slo))]) (by simp [results, Try.results54, go_sem, *]) rfl ⟨rfl, ?_⟩
  exact (((((BV.out.setCell (by simp <;> omega) _).setCell (by simp <;> omega) _).setCell (by simp <;> omega) _).setCell (by simp <;> omega) _).setCell (by simp <;> omega) _)

set_option maxRecDepth 100000 in
set_option maxHeartbeats 4000000 in
theorem rMeasured_any (x : Reg) (w : World) (hx : regB x = true) :
    Calls Try.prog 31 #[x.val] w fun e w' => e = .returned (.tuple #[.agg #[.int .i64 (measC x).alo, .int .i64 (measC x).ahi], .agg #[.int .i64 (measC x).wlo, .int .i64 (measC x).whi]]) ∧ Below w.heap.size w w' := by
  obtain ⟨⟨d0, d1⟩, ⟨v0, v1, v2⟩, s0, s1, s2⟩ := regB_t hx
  clear hx
  obtain ⟨m1, m2⟩ := mul_le v0 (show x.vlo ≤ 2147483648 by omega) s0 (show x.slo ≤ 10000 by omega)
  obtain ⟨m3, m4⟩ := mul_le (show 0 ≤ x.vhi by omega) (show x.vhi ≤ 2147483648 by omega) (show 0 ≤ x.shi by omega) (show x.shi ≤ 10000 by omega)
  obtain ⟨m5, m6⟩ := mul_le v0 (show x.vlo ≤ 2147483648 by omega) (show 0 ≤ 10000 - x.shi by omega) (show 10000 - x.shi ≤ 10000 by omega)
  obtain ⟨m7, m8⟩ := mul_le (show 0 ≤ x.vhi by omega) (show x.vhi ≤ 2147483648 by omega) (show 0 ≤ 10000 - x.slo by omega) (show 10000 - x.slo ≤ 10000 by omega)
  rw [show (measC x).alo = x.vlo * x.slo / 10000 from rfl, show (measC x).ahi = upI (x.vhi * x.shi) 10000 from rfl, show (measC x).wlo = x.vlo * (10000 - x.shi) / 10000 from rfl, show (measC x).whi = upI (x.vhi * (10000 - x.slo)) 10000 from rfl]
  unfold Reg.val
  obtain ⟨W1, hW1⟩ : ∃ W1, ((w.alloc (.cells #[.int .i64 x.day, .int .i64 x.vlo, .int .i64 x.vhi, .int .i64 x.slo, .int .i64 x.shi] 44)).alloc (.cells #[.int .i64 0, .int .i64 0] 26)).alloc (.cells #[.int .i64 0, .int .i64 0] 26) = W1 := ⟨_, rfl⟩
  have hBc : Below w.heap.size w W1 := by rw [← hW1]; exact ((below_alloc _ _).alloc (by simp) _).alloc (by simp <;> omega) _
  have zc0 : W1.heap[w.heap.size]? = some (.cells #[.int .i64 x.day, .int .i64 x.vlo, .int .i64 x.vhi, .int .i64 x.slo, .int .i64 x.shi] 44 (0, 0)) := by rw [← hW1]; exact alloc_keep (alloc_keep (alloc_at rfl))
  have zc1 : W1.heap[w.heap.size + 1]? = some (.cells #[.int .i64 0, .int .i64 0] 26 (0, 0)) := by rw [← hW1]; exact alloc_keep (alloc_at (by simp))
  have zc2 : W1.heap[w.heap.size + 1 + 1]? = some (.cells #[.int .i64 0, .int .i64 0] 26 (0, 0)) := by rw [← hW1]; exact alloc_at (by simp <;> omega)
  have c00 : W1.cell? ⟨w.heap.size, 0, none⟩ = some (.int .i64 x.day) := cell_of_block zc0 0 (by simp)
  have c01 : W1.cell? ⟨w.heap.size, 1, none⟩ = some (.int .i64 x.vlo) := cell_of_block zc0 1 (by simp)
  have c02 : W1.cell? ⟨w.heap.size, 2, none⟩ = some (.int .i64 x.vhi) := cell_of_block zc0 2 (by simp)
  have c03 : W1.cell? ⟨w.heap.size, 3, none⟩ = some (.int .i64 x.slo) := cell_of_block zc0 3 (by simp)
  have c04 : W1.cell? ⟨w.heap.size, 4, none⟩ = some (.int .i64 x.shi) := cell_of_block zc0 4 (by simp)
  have c10 : W1.cell? ⟨w.heap.size + 1, 0, none⟩ = some (.int .i64 0) := cell_of_block zc1 0 (by simp)
  have c11 : W1.cell? ⟨w.heap.size + 1, 1, none⟩ = some (.int .i64 0) := cell_of_block zc1 1 (by simp)
  have c20 : W1.cell? ⟨w.heap.size + 1 + 1, 0, none⟩ = some (.int .i64 0) := cell_of_block zc2 0 (by simp)
  have c21 : W1.cell? ⟨w.heap.size + 1 + 1, 1, none⟩ = some (.int .i64 0) := cell_of_block zc2 1 (by simp)
  have lc0 := (Array.getElem?_eq_some_iff.1 zc0).1
  have lc1 := (Array.getElem?_eq_some_iff.1 zc1).1
  have lc2 := (Array.getElem?_eq_some_iff.1 zc2).1
  have Zc1 := Lib.hid zc1
  have Zc2 := Lib.hid zc2
  clear zc0 zc1 zc2
  have HBc := Lib.hid hBc; clear hBc
  have HWc := Lib.hid hW1; clear hW1
  go_enter Try.func31, Try.ntmps31
  go_wp2_with fail
  rw [HWc.out]
  refine wp_region_box1 [true, true, true, true, true, true, true, true, true, true, true, true, true, true, true, true, true, false, false] 17 18 #[.int .i64 0, .int .i64 0] #[.int .i64 (x.vlo * x.slo / 10000), .int .i64 (upI (x.vhi * x.shi) 10000)] (by kernel_rfl) rfl rfl rfl (by kernel_rfl) rfl (by kernel_rfl) infoSpan rfl rfl (by simp [Value.oneCell']) ?_
  apply Exists.intro
  refine ⟨fun S hS hx => ?_, ?_, ?_⟩
  · obtain ⟨x0, hx0⟩ := hx
    haveI : Nonempty (GrewS W1 S) := ⟨⟨x0, hx0⟩⟩
    simp only [pickM]
    repeat (go_big_quiet_step ((go_at_call 62; exact Calls.gwS_same (rup_any _ _ _ (by omega) (by omega) (by omega) (by omega)))))
    exact wpQuiet_nil rfl
  · rfl
  · intro B w5 hBw hblk hb5
    have e0 := below_cell hb5 c00
    have e1 := below_cell hb5 c01
    have e2 := below_cell hb5 c02
    have e3 := below_cell hb5 c03
    have e4 := below_cell hb5 c04
    have l0 := Nat.lt_of_lt_of_le lc0 hb5.size
    have HB5 := Lib.hid hb5; clear hb5
    have HBL := Lib.hid hblk; clear hblk
    clear c00 c01 c02 c03 c04 c10 c11 c20 c21
    go_upto_region 2 with (fail)
    simp only [Act.put, List.setIfInBounds_toArray, List.set_cons_succ, List.set_cons_zero]
    refine wp_region_box1 [true, true, true, true, true, true, true, true, true, true, true, true, true, true, true, true, true, true, true, false, false] 19 20 #[.int .i64 0, .int .i64 0] #[.int .i64 (x.vlo * (10000 - x.shi) / 10000), .int .i64 (upI (x.vhi * (10000 - x.slo)) 10000)] (by kernel_rfl) rfl rfl rfl (by kernel_rfl) rfl (by kernel_rfl) infoSpan rfl rfl (by simp [Value.oneCell']) ?_
    apply Exists.intro
    refine ⟨fun S hS hx => ?_, ?_, ?_⟩
    · obtain ⟨x0, hx0⟩ := hx
      haveI : Nonempty (GrewS w5 S) := ⟨⟨x0, hx0⟩⟩
      simp only [pickM]
      repeat (go_big_quiet_step ((go_at_call 62; exact Calls.gwS_same (rup_any _ _ _ (by omega) (by omega) (by omega) (by omega)))))
      exact wpQuiet_nil rfl
    · rfl
    · intro B' w6 hBw' hblk' hb6
      have k1 := (hb6.block _ (Array.getElem?_eq_some_iff.1 HBL.out).1).trans HBL.out
      have z1 := (hb6.block _ (Nat.lt_of_lt_of_le lc1 HB5.out.size)).trans ((HB5.out.block _ lc1).trans Zc1.out)
      have z2 := (hb6.block _ (Nat.lt_of_lt_of_le lc2 HB5.out.size)).trans ((HB5.out.block _ lc2).trans Zc2.out)
      have s0 := cell_of_block k1 0 (by simp)
      have s1 := cell_of_block k1 1 (by simp)
      have t0 := cell_of_block hblk' 0 (by simp)
      have t1 := cell_of_block hblk' 1 (by simp)
      have p0 := cell_of_block z1 0 (by simp)
      have p1 := cell_of_block z1 1 (by simp)
      have q0 := cell_of_block z2 0 (by simp)
      have q1 := cell_of_block z2 1 (by simp)
      simp at s0 s1 t0 t1 p0 p1 q0 q1
      have f0 := frozen_of_block z1 0
      have f1 := frozen_of_block z1 1
      have f2 := frozen_of_block z2 0
      have f3 := frozen_of_block z2 1
      have sz5 := HB5.out.size
      have n1 : B ≠ w.heap.size + 1 := by omega
      have n2 : B ≠ w.heap.size + 1 + 1 := by omega
      have n3 : B' ≠ w.heap.size + 1 := by omega
      have n4 : B' ≠ w.heap.size + 1 + 1 := by omega
      have m1 := n1.symm
      have m2 := n2.symm
      have m3 := n3.symm
      have m4 := n4.symm
      have B6 := Lib.hid (thru hb6 (thru HB5.out HBc.out))
      clear e0 e1 e2 e3 e4 k1 z1 z2 hb6 hblk' m5 m6 m7 m8 sz5
      go_upto_region 3 with (fail)
      simp only [Act.put, List.setIfInBounds_toArray, List.set_cons_succ, List.set_cons_zero]
      go_region
      all_goals
        go_wp2_with fail
        refine bodyPost_ret (v := .tuple #[.agg #[.int .i64 (x.vlo * x.slo / 10000), .int .i64 (upI (x.vhi * x.shi) 10000)], .agg #[.int .i64 (x.vlo * (10000 - x.shi) / 10000), .int .i64 (upI (x.vhi * (10000 - x.slo)) 10000)]]) (by simp [results, Try.results31, go_sem, *]) rfl ⟨rfl, ?_⟩
        exact ((((B6.out.setCell (by simp <;> omega) _).setCell (by simp <;> omega) _).setCell (by simp <;> omega) _).setCell (by simp <;> omega) _).drew
end Go.Proofs.Ytljofnmgddfljaa
