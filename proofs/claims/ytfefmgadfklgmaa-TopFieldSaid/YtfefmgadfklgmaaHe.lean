/- Contract of a step, whichever; what steps leave; the function that Play defers. No conditions beyond each theorem's own. -/
import Derived.Test.YtfefmgadfklgmaaHd
import Derived.Defers
import Derived.Recover
set_option linter.unusedVariables false
set_option linter.unusedSimpArgs false
set_option linter.unusedSectionVars false
set_option linter.constructorNameAsVariable false
namespace Go.Proofs.Ytfefmgadfklgmaa.L2
open Go.RowKit

attribute [local go_sem] gw_cell gw_frozen gw_size

/-- what a step leaves -/
def Vt.step (v : Vt) (k a b : Int) : Vt := if k = 0 then v.steep a b else if k = 1 then v.sprout a b else if k = 2 then v.kiln a b else if k = 3 then v.peat a b else if k = 4 then v.sieve a b else v.weigh a b
/-- the error of a step -/
def Vt.errS (v : Vt) (k a b : Int) : Int := if stepB k a b = true then (if k = 1 ∧ ¬ (v.gas a b).1 ≤ (v.gas a b).2 then 4 else (v.step k a b).fin) else 1
theorem fin_cases (v : Vt) : v.fin = 0 ∨ v.fin = 4 ∨ v.fin = 12 := by
  unfold Vt.fin
  split
  · split <;> omega
  · omega
theorem errS_cases (v : Vt) (k a b : Int) : v.errS k a b = 0 ∨ v.errS k a b = 1 ∨ v.errS k a b = 4 ∨ v.errS k a b = 12 := by
  unfold Vt.errS
  have := fin_cases (v.step k a b)
  split
  · split <;> omega
  · omega
theorem fin_zero {v : Vt} (h : v.fin = 0) : v.dl ≤ v.dh ∧ v.wl ≤ v.wh ∧ v.pl ≤ v.ph ∧ v.dh ≤ 1099511627776 ∧ v.wh ≤ 1099511627776 ∧ v.ph ≤ 1099511627776 ∧ v.th ≤ 1099511627776 ∧ v.gh ≤ 1099511627776 ∧ v.rh ≤ 1099511627776 ∧ v.sh ≤ 1099511627776 := by
  unfold Vt.fin at h
  split at h
  · rename_i h3
    split at h
    · rename_i h7
      have a0 := of_decide_eq_true (allN_t.1 h3 0 (by omega))
      have a1 := of_decide_eq_true (allN_t.1 h3 1 (by omega))
      have a2 := of_decide_eq_true (allN_t.1 h3 2 (by omega))
      have b := fun i hi => of_decide_eq_true (allN_t.1 h7 i hi)
      exact ⟨a0, a1, a2, b 0 (by omega), b 1 (by omega), b 2 (by omega), b 3 (by omega), b 4 (by omega), b 5 (by omega), b 6 (by omega)⟩
    · omega
  · omega
theorem Vt.Ok.step {v : Vt} {k a b : Int} (hv : v.Ok) (h : v.errS k a b = 0) : (v.step k a b).Ok := by
  unfold Vt.errS at h
  split at h
  · rename_i hs
    obtain ⟨k0, k5, a0, ab, bm⟩ := stepB_t hs
    split at h
    · omega
    · rename_i hg
      have f := fin_zero h
      obtain ⟨⟨d0, d1, d2⟩, ⟨w0, w1, w2⟩, ⟨p0, p1, p2⟩, ⟨t0, t1, t2⟩, ⟨g0, g1, g2⟩, ⟨r0, r1, r2⟩, ⟨s0, s1, s2⟩⟩ := hv
      have m0 := Int.mul_nonneg d0 a0
      have u0 := upI_nonneg m0 (show (1 : Int) ≤ 10000 by omega)
      have u1 := upI_nonneg m0 (show (1 : Int) ≤ 1000 by omega)
      have b0 : 0 ≤ b := by omega
      have dh0 : 0 ≤ v.dh := by omega
      have n0 := Int.mul_nonneg dh0 b0
      clear h
      rcases (show k = 0 ∨ k = 1 ∨ k = 2 ∨ k = 3 ∨ k = 4 ∨ k = 5 by omega) with rfl | rfl | rfl | rfl | rfl | rfl
      · have e : v.step 0 a b = v.steep a b := rfl
        rw [e] at f ⊢
        unfold Vt.steep at f ⊢
        dsimp only at f
        refine ⟨?_, ?_, ?_, ?_, ?_, ?_, ?_⟩ <;> dsimp only <;> omega
      · have e : v.step 1 a b = v.sprout a b := rfl
        have bm' : b ≤ 10000 := bm
        have i0 := upI_nonneg (Int.mul_nonneg d0 (show 0 ≤ 10000 - b by omega)) (show (1 : Int) ≤ 10000 by omega)
        rw [e] at f ⊢
        have g : (v.gas a b).1 ≤ (v.gas a b).2 := Classical.byContradiction fun x => hg ⟨rfl, x⟩
        unfold Vt.gas at g
        unfold Vt.sprout at f ⊢
        dsimp only at f g
        refine ⟨?_, ?_, ?_, ?_, ?_, ?_, ?_⟩ <;> dsimp only <;> omega
      · have e : v.step 2 a b = v.kiln a b := rfl
        rw [e] at f ⊢
        unfold Vt.kiln at f ⊢
        dsimp only at f
        refine ⟨?_, ?_, ?_, ?_, ?_, ?_, ?_⟩ <;> dsimp only <;> omega
      · have e : v.step 3 a b = v.peat a b := rfl
        rw [e] at f ⊢
        unfold Vt.peat at f ⊢
        dsimp only at f
        refine ⟨?_, ?_, ?_, ?_, ?_, ?_, ?_⟩ <;> dsimp only <;> omega
      · have e : v.step 4 a b = v.sieve a b := rfl
        rw [e] at f ⊢
        unfold Vt.sieve at f ⊢
        dsimp only at f
        refine ⟨?_, ?_, ?_, ?_, ?_, ?_, ?_⟩ <;> dsimp only <;> omega
      · have e : v.step 5 a b = v.weigh a b := rfl
        rw [e] at f ⊢
        unfold Vt.weigh at f ⊢
        dsimp only at f
        refine ⟨?_, ?_, ?_, ?_, ?_, ?_, ?_⟩ <;> dsimp only <;> omega
  · omega

/-- how a step of a vat ends -/
def DoEnd (B : Nat) (v : Vt) (k a b : Int) (w : World) (e : Ending) (w' : World) : Prop := w.grownBy w' (some B) ∧ ((v.errS k a b = 0 ∧ e = .returned (.tuple #[]) ∧ w'.heap[B]? = some (.cells (v.step k a b).cells 84 (0, 0))) ∨ (v.errS k a b ≠ 0 ∧ e = .panicked (misfit (v.errS k a b))))

set_option maxHeartbeats 2000000 in
theorem do_arg (B : Nat) (k a b : Int) (w : World) (hs : stepB k a b = false) :
    Calls Try.prog 23 #[.pointer (some ⟨B, 0, none⟩), .agg #[.int .i64 k, .int .i64 a, .int .i64 b]] w fun e w' => e = .panicked (misfit 1) ∧ Below w.heap.size w w' := by
  have IS := isStep_any k a b
  rw [hs] at IS
  have IS := Lib.hid IS
  clear hs
  go_enter Try.func23, Try.ntmps23
  go_wp2_with fail
  refine (Calls.grown (IS.out _)).mono ?_
  rintro e w2 ⟨rfl, z1, rfl⟩
  go_wp2_with fail
  refine (need_not _ _).mono ?_
  rintro e w2 ⟨rfl, rfl⟩
  go_wp2_with fail
  simp [bodyPost]
  exact thru (below_gw _ z1) (below_alloc w _)

set_option maxHeartbeats 2000000 in
theorem do_gas (B : Nat) (v : Vt) (a b : Int) (w : World) (hB : w.heap[B]? = some (.cells v.cells 84 (0, 0))) (hv : v.Ok) (hs : stepB 1 a b = true) (hg : ¬ (v.gas a b).1 ≤ (v.gas a b).2) :
    Calls Try.prog 23 #[.pointer (some ⟨B, 0, none⟩), .agg #[.int .i64 1, .int .i64 a, .int .i64 b]] w fun e w' => e = .panicked (misfit 4) ∧ Below w.heap.size w w' := by
  obtain ⟨W1, hW1⟩ : ∃ W1, w.alloc (.cells #[.int .i64 1, .int .i64 a, .int .i64 b] 70) = W1 := ⟨_, rfl⟩
  have hBc : Below w.heap.size w W1 := by rw [← hW1]; exact below_alloc _ _
  have zc0 : W1.heap[w.heap.size]? = some (.cells #[.int .i64 1, .int .i64 a, .int .i64 b] 70 (0, 0)) := by rw [← hW1]; exact alloc_at rfl
  have c00 : W1.cell? ⟨w.heap.size, 0, none⟩ = some (.int .i64 1) := cell_of_block zc0 0 (by simp)
  have c01 : W1.cell? ⟨w.heap.size, 1, none⟩ = some (.int .i64 a) := cell_of_block zc0 1 (by simp)
  have c02 : W1.cell? ⟨w.heap.size, 2, none⟩ = some (.int .i64 b) := cell_of_block zc0 2 (by simp)
  have lc0 := (Array.getElem?_eq_some_iff.1 zc0).1
  clear zc0
  have HBc := Lib.hid hBc; clear hBc
  have HWc := Lib.hid hW1; clear hW1
  obtain ⟨_, _, a0, ab, bm⟩ := stepB_t hs
  have lB := (Array.getElem?_eq_some_iff.1 hB).1
  have HB := Lib.hid ((HBc.out.block _ lB).trans hB)
  have IS := isStep_any 1 a b
  rw [hs] at IS
  have IS := Lib.hid IS
  have SB := Lib.hid (fun W h => sprout_bad B v a b W h hv a0 ab bm hg)
  have hix := index1
  clear hs hg hB
  go_enter Try.func23, Try.ntmps23
  go_upto_region 1 with (fail)
  rw [HWc.out]
  go_wp2_with fail
  refine (Calls.grown (IS.out _)).mono ?_
  rintro e w2 ⟨rfl, z1, rfl⟩
  go_wp2_with fail
  refine (need_ok _ _).mono ?_
  rintro e w2 ⟨rfl, rfl⟩
  go_upto_region 2 with (fail)
  refine wp_region_gw_tail2 9 (by kernel_rfl) (by kernel_rfl) ?_
  simp only [List.take_succ_cons, List.take_zero]
  repeat (go_big_quiet_step ((go_at_call 44; with_reducible exact Calls.gw_of (steps_any _))))
  refine wpQuiet_nil ?_
  rintro _ ⟨z2, rfl⟩
  simp only [List.drop_succ_cons, List.drop_zero]
  go_wp2_with fail
  refine (SB.out _ (gw_keep HB.out z2)).mono ?_
  rintro e w2 ⟨rfl, hb2⟩
  go_wp2_with fail
  simp [bodyPost]
  exact thru hb2 (HBc.out.gw z2)

theorem do_any (B : Nat) (v : Vt) (k a b : Int) (w : World) (hB : w.heap[B]? = some (.cells v.cells 84 (0, 0))) (hv : v.Ok) :
    Calls Try.prog 23 #[.pointer (some ⟨B, 0, none⟩), .agg #[.int .i64 k, .int .i64 a, .int .i64 b]] w (DoEnd B v k a b w) := by
  cases hs : stepB k a b with
  | false =>
    have e1 : v.errS k a b = 1 := if_neg (by rw [hs]; simp)
    refine (do_arg B k a b w hs).mono ?_
    rintro e w' ⟨rfl, hb⟩
    exact ⟨grownBy_of_below hb _, .inr ⟨by omega, by rw [e1]⟩⟩
  | true =>
    obtain ⟨k0, k5, a0, ab, bm⟩ := stepB_t hs
    have core : ∀ (g : Nat), (∀ args w, (callFunc g args).run Try.prog w = .ok (.enter g args) w) → (∀ w, (Instr.index 109 stepsV (.int .i64 k)).run Try.prog w = .ok (.func (.func g) #[] #[]) w) → ¬ (k = 1 ∧ ¬ (v.gas a b).1 ≤ (v.gas a b).2) →
        (∀ W, W.heap[B]? = some (.cells v.cells 84 (0, 0)) → Calls Try.prog g #[.pointer (some ⟨B, 0, none⟩), .int .i64 a, .int .i64 b] W (Done B (v.step k a b) W)) → Calls Try.prog 23 #[.pointer (some ⟨B, 0, none⟩), .agg #[.int .i64 k, .int .i64 a, .int .i64 b]] w (DoEnd B v k a b w) := fun g eg hix hn HC => by
      have e1 : v.errS k a b = (v.step k a b).fin := by unfold Vt.errS; rw [if_pos hs, if_neg hn]
      refine (do_core g eg B v (v.step k a b) k a b w hB hs hix HC).mono ?_
      rintro e w' ⟨hg, h⟩
      unfold DoEnd
      rw [e1]
      exact ⟨hg, h⟩
    rcases (show k = 0 ∨ k = 1 ∨ k = 2 ∨ k = 3 ∨ k = 4 ∨ k = 5 by omega) with rfl | rfl | rfl | rfl | rfl | rfl
    · exact core 58 (enters_of Try.func58 (by kernel_rfl) rfl) index0 (fun h => by omega) fun W h => steep_any B v a b W h hv a0 ab bm
    · by_cases hg : (v.gas a b).1 ≤ (v.gas a b).2
      · exact core 61 (enters_of Try.func61 (by kernel_rfl) rfl) index1 (fun h => h.2 hg) fun W h => sprout_ok B v a b W h hv a0 ab bm hg
      · have e1 : v.errS 1 a b = 4 := by unfold Vt.errS; rw [if_pos hs, if_pos ⟨rfl, hg⟩]
        refine (do_gas B v a b w hB hv hs hg).mono ?_
        rintro e w' ⟨rfl, hb⟩
        exact ⟨grownBy_of_below hb _, .inr ⟨by omega, by rw [e1]⟩⟩
    · exact core 63 (enters_of Try.func63 (by kernel_rfl) rfl) index2 (fun h => by omega) fun W h => kiln_any B v a b W h hv a0 ab bm
    · exact core 64 (enters_of Try.func64 (by kernel_rfl) rfl) index3 (fun h => by omega) fun W h => peat_any B v a b W h hv a0 ab bm
    · exact core 65 (enters_of Try.func65 (by kernel_rfl) rfl) index4 (fun h => by omega) fun W h => sieve_any B v a b W h hv a0 ab bm
    · exact core 66 (enters_of Try.func66 (by kernel_rfl) rfl) index5 (fun h => by omega) fun W h => weigh_any B v a b W h hv a0 ab bm

set_option maxRecDepth 100000 in
set_option maxHeartbeats 1000000 in
theorem defer_idle (be : Nat) (w : World) :
    CallsD Try.prog 22 #[.pointer (some ⟨be, 0, none⟩)] .returning w fun e u' w' => e = .returned (.tuple #[]) ∧ u' = .returning ∧ w = w' := by
  refine callsD_of_wpS Try.func22 rfl fun c₀ cs hu => ?_
  apply wpS_seq
  apply wpS_region
  simp [wpOpsS, go_sem, recoverD, hu, Exit.thenS, Try.ntmps22]
  apply wpS_seq
  apply wpS_region
  simp [wpOpsS, go_sem, Exit.thenS]
  refine wpS_cond (t := false) (by simp [Act.eval]) ?_
  simp only [Bool.false_eq_true, if_false]
  refine wpS_of_wp (wp_skip ?_)
  cases c₀
  simp_all [bodyPostS, results, Try.results22]

set_option maxRecDepth 100000 in
set_option maxHeartbeats 1000000 in
theorem defer_caught (be : Nat) (n k : Int) (older : List PanicEntry) (w : World) (he : w.cell? ⟨be, 0, none⟩ = some (.int .i64 n)) (hf : w.frozen? ⟨be, 0, none⟩ = false) :
    CallsD Try.prog 22 #[.pointer (some ⟨be, 0, none⟩)] (.panicking ({ v := .iface 78 (.agg #[.int .i64 k]), recovered := false } :: older)) w fun e u' w' =>
      e = .returned (.tuple #[]) ∧ u' = .panicking ({ v := .iface 78 (.agg #[.int .i64 k]), recovered := true } :: older) ∧ ∃ w1, Below w.heap.size w w1 ∧ w' = w1.setCell ⟨be, 0, none⟩ (.int .i64 k) := by
  have hta : ∀ w, Sem.run Try.prog (Instr.typeAssert (.iface 78 (.agg #[.int .i64 k])) 20 78 true) w = .ok (.tuple #[.agg #[.int .i64 k], .bool true]) w := fun _ => by kernel_rfl
  have be1 := World.block_lt_of_cell? w _ he
  refine callsD_of_wpS Try.func22 rfl fun c₀ cs hu => ?_
  apply wpS_seq
  apply wpS_region
  simp [wpOpsS, go_sem, recoverD, hu, Exit.thenS, Try.ntmps22]
  apply wpS_seq
  apply wpS_region
  simp [wpOpsS, go_sem, Exit.thenS]
  refine wpS_cond (t := true) (by simp [Act.eval]) ?_
  simp only [if_true]
  apply wpS_seq
  apply wpS_region
  simp [wpOpsS, go_sem, Exit.thenS, hta]
  have he1 : (w.alloc (.cells #[.int .i64 k] 78)).cell? ⟨be, 0, none⟩ = some (.int .i64 n) := ((below_alloc w _).cell (p := ⟨be, 0, none⟩) be1).trans he
  have hf1 : (w.alloc (.cells #[.int .i64 k] 78)).frozen? ⟨be, 0, none⟩ = false := ((below_alloc w _).frozen (p := ⟨be, 0, none⟩) be1).trans hf
  apply wpS_seq
  apply wpS_seq
  apply wpS_region
  simp [wpOpsS, go_sem, Exit.thenS]
  refine wpS_cond (t := false) (by simp [Act.eval]) ?_
  simp only [Bool.false_eq_true, if_false]
  refine wpS_of_wp (wp_skip ?_)
  cases c₀
  simp_all [Exit.thenS]
  apply wpS_region
  simp [wpOpsS, go_sem, he1, hf1, bodyPostS, results, Try.results22]
  exact ⟨_, below_alloc w _, rfl⟩
end Go.Proofs.Ytfefmgadfklgmaa.L2
