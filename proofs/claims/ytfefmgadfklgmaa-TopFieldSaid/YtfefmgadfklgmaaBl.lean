/- Contracts of caught, run, of the function that Ferment defers. No conditions beyond each theorem's own. -/
import Derived.Test.YtfefmgadfklgmaaBk
import Derived.Test.YtfefmgadfklgmaaBh
import Derived.Test.YtfefmgadfklgmaaAm
set_option linter.unusedVariables false
set_option linter.unusedSimpArgs false
set_option linter.unusedSectionVars false
set_option linter.constructorNameAsVariable false
namespace Go.Proofs.Ytfefmgadfklgmaa
open Go.RowKit

set_option maxHeartbeats 400000 in
theorem caught_nil (n : Int) (w : World) :
    Calls Try.prog 33 #[.nilIface, .int .i64 n] w fun e w' => e = .returned (.int .i64 n) ∧ w = w' := by
  go_enter Try.func33, Try.ntmps33
  go_wp2
  go_ret
  exact ⟨rfl, rfl⟩

set_option maxRecDepth 100000 in
set_option maxHeartbeats 400000 in
theorem caught_stopped (n : Int) (w : World) :
    Calls Try.prog 33 #[.iface 117 (.agg #[]), .int .i64 n] w fun e w' => e = .returned (.int .i64 12) ∧ Below w.heap.size w w' := by
  have hta : ∀ w, Sem.run Try.prog (Instr.typeAssert (.iface 117 (.agg #[])) 20 117 true) w = .ok (.tuple #[.agg #[], .bool true]) w := fun _ => by kernel_rfl
  go_enter Try.func33, Try.ntmps33
  go_wp2
  go_ret
  exact ⟨rfl, Below.refl _ w⟩

set_option maxHeartbeats 400000 in
theorem run_any (by_ : Nat) (v : Vat) (aC : Option Addr) (k cC : Nat) (w : World) :
    Calls Try.prog 34 #[.pointer (some ⟨by_, 0, none⟩), v.val, .slice aC k cC] w fun e w' =>
      e = .returned (.func (.func 50) #[] #[.pointer (some ⟨w.heap.size + 1 + 1, 0, none⟩), .pointer (some ⟨w.heap.size, 0, none⟩), .pointer (some ⟨w.heap.size + 1, 0, none⟩)]) ∧
        ((w.alloc (.cells #[.pointer (some ⟨by_, 0, none⟩)] 97)).alloc (.cells v.cells 53)).alloc (.cells #[.slice aC k cC] 30) = w' := by
  have hmf : ∀ (fn : Fn) (first cap : Array Value) (w : World), (Instr.makeFunc fn first cap).run Try.prog w = .ok (.func fn first cap) w := fun _ _ _ _ => rfl
  unfold Vat.val Vat.cells
  go_enter Try.func34, Try.ntmps34
  go_wp2
  go_ret
  exact ⟨rfl, rfl⟩

set_option maxRecDepth 100000 in
set_option maxHeartbeats 1000000 in
theorem defer_idle (nn be bl : Nat) (w : World) (he : w.cell? ⟨be, 0, none⟩ = some (.int .i64 0)) (hf : w.frozen? ⟨be, 0, none⟩ = false) :
    CallsDIn Fence.wide nn Try.prog 32 #[.pointer (some ⟨be, 0, none⟩), .pointer (some ⟨bl, 0, none⟩)] .returning w fun e u' w' => e = .returned (.tuple #[]) ∧ u' = .returning ∧ (w.setCell ⟨be, 0, none⟩ (.int .i64 0)).drew = w' := by
  refine callsDIn_wide Try.func32 rfl fun c₀ cs hu => ?_
  apply wpS_seq
  refine wpS_region_any (by kernel_rfl) ?_
  refine wpAnyR_step (fuel := 3) (rs := [0, 1]) (by kernel_rfl) (by simp) ?_
  intro i hi
  have hi' : i = 0 ∨ i = 1 := by simpa using hi
  clear hi
  rcases hi' with rfl | rfl
  · simp [wpOpR, go_sem, recoverD, hu, he, Try.ntmps32]
    refine wpAnyR_step (fuel := 2) (rs := [1]) (by kernel_rfl) (by simp) ?_
    intro i hi
    obtain rfl : i = 1 := by simpa using hi
    clear hi
    simp [wpOpR, go_sem, recoverD, hu, he]
    refine wpAnyR_step (fuel := 1) (rs := [2]) (by kernel_rfl) (by simp) ?_
    intro i hi
    obtain rfl : i = 2 := by simpa using hi
    clear hi
    simp [wpOpR, go_sem]
    refine (caught_nil 0 _).mono ?_
    rintro e w' ⟨rfl, rfl⟩
    refine wpAnyR_step (fuel := 0) (rs := [3]) (by kernel_rfl) (by simp) ?_
    intro i hi
    obtain rfl : i = 3 := by simpa using hi
    clear hi
    simp [wpOpR, go_sem, he, hf]
    refine wpAnyR_done (by kernel_rfl) ?_
    simp only [Exit.thenS]
    apply wpS_seq
    apply wpS_region
    simp [wpOpsS, go_sem, he, Exit.thenS]
    refine wpS_cond (t := false) (by simp [Act.eval]) ?_
    simp only [Bool.false_eq_true, if_false]
    refine wpS_of_wp (wp_skip ?_)
    cases c₀
    simp_all [bodyPostS, results, Try.results32]
  · simp [wpOpR, go_sem, recoverD, hu, he, Try.ntmps32]
    refine wpAnyR_step (fuel := 2) (rs := [0]) (by kernel_rfl) (by simp) ?_
    intro i hi
    obtain rfl : i = 0 := by simpa using hi
    clear hi
    simp [wpOpR, go_sem, recoverD, hu, he]
    refine wpAnyR_step (fuel := 1) (rs := [2]) (by kernel_rfl) (by simp) ?_
    intro i hi
    obtain rfl : i = 2 := by simpa using hi
    clear hi
    simp [wpOpR, go_sem]
    refine (caught_nil 0 _).mono ?_
    rintro e w' ⟨rfl, rfl⟩
    refine wpAnyR_step (fuel := 0) (rs := [3]) (by kernel_rfl) (by simp) ?_
    intro i hi
    obtain rfl : i = 3 := by simpa using hi
    clear hi
    simp [wpOpR, go_sem, he, hf]
    refine wpAnyR_done (by kernel_rfl) ?_
    simp only [Exit.thenS]
    apply wpS_seq
    apply wpS_region
    simp [wpOpsS, go_sem, he, Exit.thenS]
    refine wpS_cond (t := false) (by simp [Act.eval]) ?_
    simp only [Bool.false_eq_true, if_false]
    refine wpS_of_wp (wp_skip ?_)
    cases c₀
    simp_all [bodyPostS, results, Try.results32]

/-- what is left of a run that was broken off -/
def Broken (be bl : Nat) (k : Int) (w w' : World) : Prop := ∃ w1, Below w.heap.size w w1 ∧ w' = (w1.setCell ⟨be, 0, none⟩ (.int .i64 k)).setCell ⟨bl, 0, none⟩ (.slice none 0 0)

set_option maxRecDepth 100000 in
set_option maxHeartbeats 1000000 in
theorem defer_caught (nn be bl : Nat) (n : Int) (vl : Value) (older : List PanicEntry) (w : World) (he : w.cell? ⟨be, 0, none⟩ = some (.int .i64 n)) (hf : w.frozen? ⟨be, 0, none⟩ = false)
    (hl : w.cell? ⟨bl, 0, none⟩ = some vl) (hg : w.frozen? ⟨bl, 0, none⟩ = false) (hne : ¬ be = bl) :
    CallsDIn Fence.wide nn Try.prog 32 #[.pointer (some ⟨be, 0, none⟩), .pointer (some ⟨bl, 0, none⟩)] (.panicking ({ v := .iface 117 (.agg #[]), recovered := false } :: older)) w fun e u' w' =>
      e = .returned (.tuple #[]) ∧ u' = .panicking ({ v := .iface 117 (.agg #[]), recovered := true } :: older) ∧ Broken be bl 12 w w' := by
  have be1 := World.block_lt_of_cell? w _ he
  have bl1 := World.block_lt_of_cell? w _ hl
  refine callsDIn_wide Try.func32 rfl fun c₀ cs hu => ?_
  apply wpS_seq
  refine wpS_region_any (by kernel_rfl) ?_
  refine wpAnyR_step (fuel := 3) (rs := [0, 1]) (by kernel_rfl) (by simp) ?_
  intro i hi
  have hi' : i = 0 ∨ i = 1 := by simpa using hi
  clear hi
  rcases hi' with rfl | rfl
  · simp [wpOpR, go_sem, recoverD, hu, he, Try.ntmps32]
    refine wpAnyR_step (fuel := 2) (rs := [1]) (by kernel_rfl) (by simp) ?_
    intro i hi
    obtain rfl : i = 1 := by simpa using hi
    clear hi
    simp [wpOpR, go_sem, recoverD, hu, he]
    refine wpAnyR_step (fuel := 1) (rs := [2]) (by kernel_rfl) (by simp) ?_
    intro i hi
    obtain rfl : i = 2 := by simpa using hi
    clear hi
    simp [wpOpR, go_sem]
    refine (caught_stopped n _).mono ?_
    rintro e w1 ⟨rfl, hb1⟩
    have he1 : w1.cell? ⟨be, 0, none⟩ = some (.int .i64 n) := (hb1.cell (p := ⟨be, 0, none⟩) be1).trans he
    have hf1 : w1.frozen? ⟨be, 0, none⟩ = false := (hb1.frozen (p := ⟨be, 0, none⟩) be1).trans hf
    have hl1 : w1.cell? ⟨bl, 0, none⟩ = some vl := (hb1.cell (p := ⟨bl, 0, none⟩) bl1).trans hl
    have hg1 : w1.frozen? ⟨bl, 0, none⟩ = false := (hb1.frozen (p := ⟨bl, 0, none⟩) bl1).trans hg
    refine wpAnyR_step (fuel := 0) (rs := [3]) (by kernel_rfl) (by simp) ?_
    intro i hi
    obtain rfl : i = 3 := by simpa using hi
    clear hi
    simp [wpOpR, go_sem, he1, hf1]
    refine wpAnyR_done (by kernel_rfl) ?_
    simp only [Exit.thenS]
    apply wpS_seq
    apply wpS_region
    simp [wpOpsS, go_sem, he1, Exit.thenS]
    refine wpS_cond (t := true) (by simp [Act.eval]) ?_
    simp only [if_true]
    apply wpS_region
    simp [wpOpsS, go_sem, hl1, hg1, hne, bodyPostS, results, Try.results32]
    exact ⟨w1, (Below.refl _ w).drew.trans hb1, rfl⟩
  · simp [wpOpR, go_sem, recoverD, hu, he, Try.ntmps32]
    refine wpAnyR_step (fuel := 2) (rs := [0]) (by kernel_rfl) (by simp) ?_
    intro i hi
    obtain rfl : i = 0 := by simpa using hi
    clear hi
    simp [wpOpR, go_sem, recoverD, hu, he]
    refine wpAnyR_step (fuel := 1) (rs := [2]) (by kernel_rfl) (by simp) ?_
    intro i hi
    obtain rfl : i = 2 := by simpa using hi
    clear hi
    simp [wpOpR, go_sem]
    refine (caught_stopped n _).mono ?_
    rintro e w1 ⟨rfl, hb1⟩
    have he1 : w1.cell? ⟨be, 0, none⟩ = some (.int .i64 n) := (hb1.cell (p := ⟨be, 0, none⟩) be1).trans he
    have hf1 : w1.frozen? ⟨be, 0, none⟩ = false := (hb1.frozen (p := ⟨be, 0, none⟩) be1).trans hf
    have hl1 : w1.cell? ⟨bl, 0, none⟩ = some vl := (hb1.cell (p := ⟨bl, 0, none⟩) bl1).trans hl
    have hg1 : w1.frozen? ⟨bl, 0, none⟩ = false := (hb1.frozen (p := ⟨bl, 0, none⟩) bl1).trans hg
    refine wpAnyR_step (fuel := 0) (rs := [3]) (by kernel_rfl) (by simp) ?_
    intro i hi
    obtain rfl : i = 3 := by simpa using hi
    clear hi
    simp [wpOpR, go_sem, he1, hf1]
    refine wpAnyR_done (by kernel_rfl) ?_
    simp only [Exit.thenS]
    apply wpS_seq
    apply wpS_region
    simp [wpOpsS, go_sem, he1, Exit.thenS]
    refine wpS_cond (t := true) (by simp [Act.eval]) ?_
    simp only [if_true]
    apply wpS_region
    simp [wpOpsS, go_sem, hl1, hg1, hne, bodyPostS, results, Try.results32]
    exact ⟨w1, (Below.refl _ w).drew.trans hb1, rfl⟩
end Go.Proofs.Ytfefmgadfklgmaa
