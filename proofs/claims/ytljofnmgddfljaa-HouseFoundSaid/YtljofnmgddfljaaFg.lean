/- Contract of the law's around; plain laws: what is true and measured rightly. No conditions beyond each theorem's own. -/
import Derived.Test.YtljofnmgddfljaaFb
import Derived.Test.YtljofnmgddfljaaEa
set_option linter.unusedVariables false
set_option linter.unusedSimpArgs false
set_option linter.unusedSectionVars false
set_option linter.constructorNameAsVariable false
namespace Go.Proofs.Ytljofnmgddfljaa
open Go.RowKit

attribute [local go_sem] gw_cell gw_frozen gw_size
attribute [local go_sem ↓] run_minZ run_maxZ

/-- a measurement of what is true, right within some error -/
def aroundM (day a t off : Int) : Reg := ⟨day, maxZ 0 (a + t - off), a + t + off, maxZ 0 (a * 10000 / (a + t) - off % 100), minZ 10000 ((a * 10000 + (a + t) - 1) / (a + t) + off % 100)⟩
def aroundB (a t off : Int) : Bool := decide (a + t ≠ 0 ∧ a + t + off ≤ 2147483648)
def aroundO (day a t off : Int) : Reg := if aroundB a t off = true then aroundM day a t off else ⟨0, 0, 0, 0, 0⟩
theorem aroundB_t {a t off : Int} (h : aroundB a t off = true) : a + t ≠ 0 ∧ a + t + off ≤ 2147483648 := of_decide_eq_true h
theorem around_parts {a t : Int} (h0 : 0 ≤ a) (h1 : 0 ≤ t) (hv : a + t ≠ 0) : (0 ≤ a * 10000 / (a + t) ∧ a * 10000 / (a + t) ≤ (a * 10000 + (a + t) - 1) / (a + t) ∧ (a * 10000 + (a + t) - 1) / (a + t) ≤ 10000) ∧ a * 10000 / (a + t) * (a + t) ≤ a * 10000 ∧ a * 10000 ≤ (a * 10000 + (a + t) - 1) / (a + t) * (a + t) := by
  have q1 := Int.ediv_mul_le (a * 10000) hv
  have q2 := le_upI (a := a * 10000) (show 1 ≤ a + t by omega)
  have q3 : (a * 10000 + (a + t) - 1) / (a + t) ≤ 10000 := upI_le (by omega) (by rw [Int.mul_add]; omega)
  have q4 : a * 10000 / (a + t) ≤ (a * 10000 + (a + t) - 1) / (a + t) := Int.ediv_le_ediv (by omega) (by omega)
  exact ⟨⟨Int.ediv_nonneg (by omega) (by omega), q4, q3⟩, q1, q2⟩
theorem aroundM_ok {day a t off : Int} (hd : 0 ≤ day ∧ day ≤ 65536) (h0 : 0 ≤ a) (h1 : 0 ≤ t) (ho : 0 ≤ off) (hb : aroundB a t off = true) : regB (aroundM day a t off) = true := by
  obtain ⟨hv, hc⟩ := aroundB_t hb
  obtain ⟨⟨q0, q1, q2⟩, -⟩ := around_parts h0 h1 hv
  have k0 := Int.emod_nonneg off (show (100 : Int) ≠ 0 by omega)
  simp only [regB, Bool.and_eq_true]
  refine ⟨inB_t.2 hd, spanB_t.2 ?_, spanB_t.2 ?_⟩
  · show 0 ≤ maxZ 0 (a + t - off) ∧ maxZ 0 (a + t - off) ≤ a + t + off ∧ a + t + off ≤ 2147483648
    rw [maxZ_eq]; omega
  · show 0 ≤ maxZ 0 (a * 10000 / (a + t) - off % 100) ∧ maxZ 0 (a * 10000 / (a + t) - off % 100) ≤ minZ 10000 ((a * 10000 + (a + t) - 1) / (a + t) + off % 100) ∧ minZ 10000 ((a * 10000 + (a + t) - 1) / (a + t) + off % 100) ≤ 10000
    rw [maxZ_eq, minZ_eq]; omega
/-- what was measured has what is true -/
theorem aroundM_truly {day a t off : Int} (h0 : 0 ≤ a) (h1 : 0 ≤ t) (ho : 0 ≤ off) (hb : aroundB a t off = true) : Truly (measC (aroundM day a t off)) a t := by
  obtain ⟨hv, hc⟩ := aroundB_t hb
  obtain ⟨⟨q0, q1, q2⟩, q3, q4⟩ := around_parts h0 h1 hv
  have k0 := Int.emod_nonneg off (show (100 : Int) ≠ 0 by omega)
  generalize hlo : a * 10000 / (a + t) = lo at *
  generalize hhi : (a * 10000 + (a + t) - 1) / (a + t) = hi at *
  have e1 : (aroundM day a t off).vlo = max 0 (a + t - off) := maxZ_eq _ _
  have e2 : (aroundM day a t off).vhi = a + t + off := rfl
  have e3 : (aroundM day a t off).slo = max 0 (lo - off % 100) := by rw [← hlo]; exact maxZ_eq _ _
  have e4 : (aroundM day a t off).shi = min 10000 (hi + off % 100) := by rw [← hhi]; exact minZ_eq _ _
  generalize aroundM day a t off = m at *
  have v0 : 0 ≤ m.vlo ∧ m.vlo ≤ a + t := by omega
  have v1 : a + t ≤ m.vhi := by omega
  have s0 : 0 ≤ m.slo ∧ m.slo ≤ lo := by omega
  have s1 : hi ≤ m.shi ∧ m.shi ≤ 10000 := by omega
  have A := (mul_le v0.1 v0.2 s0.1 s0.2).2
  have B := Int.mul_le_mul v1 s1.1 (by omega) (by omega : 0 ≤ m.vhi)
  have C1 := (mul_le v0.1 v0.2 (show 0 ≤ 10000 - m.shi by omega) (show 10000 - m.shi ≤ 10000 - hi by omega)).2
  have D := Int.mul_le_mul v1 (show 10000 - lo ≤ 10000 - m.slo by omega) (by omega) (by omega : 0 ≤ m.vhi)
  have x1 : (a + t) * lo ≤ a * 10000 := by rw [Int.mul_comm]; exact q3
  have x2 : a * 10000 ≤ (a + t) * hi := by rw [Int.mul_comm (a + t)]; exact q4
  have x3 : (a + t) * (10000 - hi) = (a + t) * 10000 - (a + t) * hi := Int.mul_sub _ _ _
  have x4 : (a + t) * (10000 - lo) = (a + t) * 10000 - (a + t) * lo := Int.mul_sub _ _ _
  refine ⟨?_, ?_, ?_, ?_⟩
  · show m.vlo * m.slo / 10000 ≤ a
    omega
  · show a ≤ upI (m.vhi * m.shi) 10000
    unfold upI
    omega
  · show m.vlo * (10000 - m.shi) / 10000 ≤ t
    omega
  · show t ≤ upI (m.vhi * (10000 - m.slo)) 10000
    unfold upI
    omega
section
variable {x m : Cont} {a t : Int}
/-- what is true is within both: they have a common part, which has it -/
theorem met_truly (hx : contB x = true) (hm : contB m = true) (h1 : Truly x a t) (h2 : Truly m a t) : meetB x m = true ∧ Truly (meetC x m) a t := by
  obtain ⟨a0, a1, w0, w1⟩ := h1
  obtain ⟨b0, b1, v0, v1⟩ := h2
  refine ⟨(meetB_iff hx hm).2 (by omega), ?_⟩
  have e1 := maxZ_eq x.alo m.alo
  have e2 := minZ_eq x.ahi m.ahi
  have e3 := maxZ_eq x.wlo m.wlo
  have e4 := minZ_eq x.whi m.whi
  refine ⟨?_, ?_, ?_, ?_⟩
  · show maxZ x.alo m.alo ≤ a
    omega
  · show a ≤ minZ x.ahi m.ahi
    omega
  · show maxZ x.wlo m.wlo ≤ t
    omega
  · show t ≤ minZ x.whi m.whi
    omega
/-- a part of both was taken, and water may have been added: not Wrong -/
theorem shows_wet {a' t' : Int} (hx : contB x = true) (hm : contB m = true) (h1 : Truly x a t) (h2 : Truly m a' t') (h3 : 0 ≤ a') (h4 : a' ≤ a) (h5 : a' * t ≤ a * t') (h6 : 0 ≤ t') : showsN x m ≠ 3 := by
  obtain ⟨a0, a1, w0, w1⟩ := h1
  obtain ⟨b0, b1, v0, v1⟩ := h2
  obtain ⟨-, ⟨x0, x1, x2⟩, x3, x4, x5⟩ := contB_t hx
  obtain ⟨-, ⟨y0, y1, y2⟩, y3, y4, y5⟩ := contB_t hm
  intro h
  have P := Int.mul_le_mul b0 w0 x3 h3
  have R := Int.mul_le_mul a1 v1 h6 (show 0 ≤ x.ahi by omega)
  rw [Int.mul_comm x.ahi] at R
  rcases showsN_three h with h | h <;> omega
/-- a part of both was taken: Sound or Less -/
theorem shows_less {a' t' : Int} (hx : contB x = true) (hm : contB m = true) (h1 : Truly x a t) (h2 : Truly m a' t') (h3 : 0 ≤ a') (h4 : a' ≤ a) (h5 : a' * t = a * t') (h6 : 0 ≤ t') (h7 : t' ≤ t) : showsN x m = 0 ∨ showsN x m = 1 := by
  have n3 := shows_wet hx hm h1 h2 h3 h4 (Int.le_of_eq h5) h6
  obtain ⟨a0, a1, w0, w1⟩ := h1
  obtain ⟨b0, b1, v0, v1⟩ := h2
  obtain ⟨-, ⟨x0, x1, x2⟩, x3, x4, x5⟩ := contB_t hx
  obtain ⟨-, ⟨y0, y1, y2⟩, y3, y4, y5⟩ := contB_t hm
  have P := Int.mul_le_mul v0 a0 x0 h6
  have R := Int.mul_le_mul b1 w1 (show 0 ≤ t by omega) (show 0 ≤ m.ahi by omega)
  rw [Int.mul_comm t'] at P
  unfold showsN at n3 ⊢
  split
  · exact .inl rfl
  · rename_i g1
    rw [if_neg g1] at n3
    split
    · rename_i g2; rw [if_pos g2] at n3; exact absurd rfl n3
    · rw [if_neg (by omega)]; exact .inr rfl
end

set_option maxRecDepth 100000 in
set_option maxHeartbeats 4000000 in
theorem around_any (day a t off : Int) (w : World) (h0 : 0 ≤ a) (h2 : a ≤ 2147483648) (h3 : 0 ≤ t) (h4 : t ≤ 2147549183) (ho : 0 ≤ off) (ho2 : off ≤ 65535) :
    Calls Try.prog 29 #[.int .i64 day, .int .i64 a, .int .i64 t, .int .u16 off] w fun e w' => e = .returned (.tuple #[(aroundO day a t off).val, .bool (aroundB a t off)]) ∧ Below w.heap.size w w' := by
  obtain ⟨W1, hW1⟩ : ∃ W1, w.alloc (.cells #[.int .i64 0, .int .i64 0, .int .i64 0, .int .i64 0, .int .i64 0] 44) = W1 := ⟨_, rfl⟩
  have hBc : Below w.heap.size w W1 := by rw [← hW1]; exact below_alloc _ _
  have zc0 : W1.heap[w.heap.size]? = some (.cells #[.int .i64 0, .int .i64 0, .int .i64 0, .int .i64 0, .int .i64 0] 44 (0, 0)) := by rw [← hW1]; exact alloc_at rfl
  have c00 : W1.cell? ⟨w.heap.size, 0, none⟩ = some (.int .i64 0) := cell_of_block zc0 0 (by simp)
  have c01 : W1.cell? ⟨w.heap.size, 1, none⟩ = some (.int .i64 0) := cell_of_block zc0 1 (by simp)
  have c02 : W1.cell? ⟨w.heap.size, 2, none⟩ = some (.int .i64 0) := cell_of_block zc0 2 (by simp)
  have c03 : W1.cell? ⟨w.heap.size, 3, none⟩ = some (.int .i64 0) := cell_of_block zc0 3 (by simp)
  have c04 : W1.cell? ⟨w.heap.size, 4, none⟩ = some (.int .i64 0) := cell_of_block zc0 4 (by simp)
  have lc0 := (Array.getElem?_eq_some_iff.1 zc0).1
  have fc00 := frozen_of_block zc0 0
  have fc01 := frozen_of_block zc0 1
  have fc02 := frozen_of_block zc0 2
  have fc03 := frozen_of_block zc0 3
  have fc04 := frozen_of_block zc0 4
  have Zc0 := Lib.hid zc0
  clear zc0
  have HBc := Lib.hid hBc; clear hBc
  have HWc := Lib.hid hW1; clear hW1
  have k0 := Int.emod_nonneg off (show (100 : Int) ≠ 0 by omega)
  have k1 := Int.emod_lt_of_pos off (show (0 : Int) < 100 by omega)
  by_cases hv : a + t = 0
  · have e1 : aroundB a t off = false := by unfold aroundB; rw [decide_eq_false (fun h => h.1 hv)]
    have e2 : aroundO day a t off = ⟨0, 0, 0, 0, 0⟩ := by unfold aroundO; rw [e1]; rfl
    rw [e1, e2]
    clear e1 e2
    obtain rfl : a = 0 := by omega
    obtain rfl : t = 0 := by omega
    go_enter Try.func29, Try.ntmps29
    go_wp2_with fail
    rw [HWc.out]
    go_wp2_with fail
    refine bodyPost_ret (v := .tuple #[.agg #[.int .i64 0, .int .i64 0, .int .i64 0, .int .i64 0, .int .i64 0], .bool false]) (by simp [results, Try.results29, go_sem, *]) rfl ⟨rfl, ?_⟩
    exact HBc.out
  · by_cases hc : 2147483648 < a + t + off
    · have e1 : aroundB a t off = false := by unfold aroundB; rw [decide_eq_false (fun h => by have := h.2; omega)]
      have e2 : aroundO day a t off = ⟨0, 0, 0, 0, 0⟩ := by unfold aroundO; rw [e1]; rfl
      rw [e1, e2]
      clear e1 e2
      have nv : (a + t == 0) = false := by simpa using hv
      go_enter Try.func29, Try.ntmps29
      go_wp2_with fail
      rw [HWc.out]
      go_wp2_with fail
      refine bodyPost_ret (v := .tuple #[.agg #[.int .i64 0, .int .i64 0, .int .i64 0, .int .i64 0, .int .i64 0], .bool false]) (by simp [results, Try.results29, go_sem, *]) rfl ⟨rfl, ?_⟩
      exact HBc.out
    · have e1 : aroundB a t off = true := by unfold aroundB; rw [decide_eq_true ⟨hv, by omega⟩]
      have e2 : aroundO day a t off = aroundM day a t off := by unfold aroundO; rw [e1]; rfl
      rw [e1, e2]
      clear e1 e2
      have nv : (a + t == 0) = false := by simpa using hv
      obtain ⟨⟨q0, q1, q2⟩, -⟩ := around_parts h0 h3 hv
      rw [show (aroundM day a t off).val = .agg #[.int .i64 day, .int .i64 (maxZ 0 (a + t - off)), .int .i64 (a + t + off), .int .i64 (maxZ 0 (a * 10000 / (a + t) - off % 100)), .int .i64 (minZ 10000 ((a * 10000 + (a + t) - 1) / (a + t) + off % 100))] from rfl]
      go_enter Try.func29, Try.ntmps29
      go_wp2_with fail
      rw [HWc.out]
      go_wp2_with fail
      refine wp_region_gw (by kernel_rfl) (by kernel_rfl) ?_
      repeat (go_big_quiet_step (fail))
      refine wpQuiet_nil ?_
      rintro _ ⟨z, rfl⟩
      obtain ⟨V, hV⟩ : ∃ V, gw W1 z = V := ⟨_, rfl⟩
      have z1 := ((below_gw W1 z).block _ lc0).trans Zc0.out
      have BV := Lib.hid (HBc.out.gw z)
      rw [hV] at z1 BV ⊢
      clear hV c00 c01 c02 c03 c04 fc00 fc01 fc02 fc03 fc04
      have g0 := cell_of_block z1 0 (by simp)
      have f0 := frozen_of_block z1 0
      have g1 := cell_of_block z1 1 (by simp)
      have f1 := frozen_of_block z1 1
      have g2 := cell_of_block z1 2 (by simp)
      have f2 := frozen_of_block z1 2
      have g3 := cell_of_block z1 3 (by simp)
      have f3 := frozen_of_block z1 3
      have g4 := cell_of_block z1 4 (by simp)
      have f4 := frozen_of_block z1 4
      have lV := (Array.getElem?_eq_some_iff.1 z1).1
      clear z1
      go_wp2_with fail
      refine bodyPost_ret (v := .tuple #[.agg #[.int .i64 day, .int .i64 (maxZ 0 (a + t - off)), .int .i64 (a + t + off), .int .i64 (maxZ 0 (a * 10000 / (a + t) - off % 100)), .int .i64 (minZ 10000 ((a * 10000 + (a + t) - 1) / (a + t) + off % 100))], .bool true]) (by simp [results, Try.results29, go_sem, *]) rfl ⟨rfl, ?_⟩
      exact (((((BV.out).setCell (by simp <;> omega) _).setCell (by simp <;> omega) _).setCell (by simp <;> omega) _).setCell (by simp <;> omega) _).setCell (by simp <;> omega) _
end Go.Proofs.Ytljofnmgddfljaa
