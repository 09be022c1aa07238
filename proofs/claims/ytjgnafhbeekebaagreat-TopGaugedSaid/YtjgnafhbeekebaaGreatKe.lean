/- Contracts of the reference's At; At's errors. Contract of At. Contracts of isRegauge, part, measured; of the reference's Valid, Measured. No conditions beyond each theorem's own. -/
import Derived.Test.YtjgnafhbeekebaaGreatKd
set_option linter.unusedVariables false
set_option linter.unusedSimpArgs false
set_option linter.unusedSectionVars false
set_option linter.constructorNameAsVariable false
namespace Go.Proofs.YtjgnafhbeekebaaGreat.L7
open Go.RowKit

attribute [local go_sem] gw_cell gw_frozen gw_size

def zeroCont : Cont := ⟨0, 0, 0, 0, 0⟩
theorem errH_zero {C : Clim} {x : Cont} {k : Nat} {F G : Nat → Int} {day : Int} (h : errH C x k F G day = 0) :
    climB C = true ∧ contB x = true ∧ staysB C.nA k F G = true ∧ x.day ≤ day ∧ day ≤ 65536 ∧ (x.day < day → F 0 ≤ x.day) := by
  unfold errH at h
  split at h
  · rename_i h1
    split at h
    · rename_i h2
      have := inB_t.1 h2
      split at h
      · omega
      · split at h
        · omega
        · exact ⟨h1.1, h1.2.1, h1.2.2, by omega, by omega, fun _ => by omega⟩
    · omega
  · omega

set_option maxRecDepth 100000 in
set_option maxHeartbeats 1000000 in
theorem At_err (C : Clim) (x : Cont) (aS : Option Addr) (k cS : Nat) (F G : Nat → Int) (day : Int) (w : World) (hC : C.In w) (hf : C.Fits) (hk : k ≤ 9223372036854775807) (hS : SpansAt w aS k F G) {E : Int} (hE : errH C x k F G day = E) (h0 : E ≠ 0) :
    Calls Tryz.prog 62 #[.agg #[.int .i64 C.days, .slice C.aA C.nA C.cA, .slice C.aW C.nW C.cW], x.val, .slice aS k cS, .int .i64 day] w fun e w' => e = .returned (.tuple #[zeroCont.val, .int .i64 E]) ∧ Below w.heap.size w w' := by
  unfold Cont.val zeroCont
  obtain ⟨W1, hW1⟩ : ∃ W1, ((w.alloc (.cells #[.int .i64 C.days, .slice C.aA C.nA C.cA, .slice C.aW C.nW C.cW] 30)).alloc (.cells #[.int .i64 x.day, .int .i64 x.alo, .int .i64 x.ahi, .int .i64 x.wlo, .int .i64 x.whi] 32)).alloc (.cells #[.int .i64 0, .int .i64 0, .int .i64 0, .int .i64 0, .int .i64 0] 32) = W1 := ⟨_, rfl⟩
  have hBc : Below w.heap.size w W1 := by rw [← hW1]; exact ((below_alloc _ _).alloc (by simp) _).alloc (by simp <;> omega) _
  have zc0 : W1.heap[w.heap.size]? = some (.cells #[.int .i64 C.days, .slice C.aA C.nA C.cA, .slice C.aW C.nW C.cW] 30 (0, 0)) := by rw [← hW1]; exact alloc_keep (alloc_keep (alloc_at rfl))
  have zc1 : W1.heap[w.heap.size + 1]? = some (.cells #[.int .i64 x.day, .int .i64 x.alo, .int .i64 x.ahi, .int .i64 x.wlo, .int .i64 x.whi] 32 (0, 0)) := by rw [← hW1]; exact alloc_keep (alloc_at (by simp))
  have zc2 : W1.heap[w.heap.size + 1 + 1]? = some (.cells #[.int .i64 0, .int .i64 0, .int .i64 0, .int .i64 0, .int .i64 0] 32 (0, 0)) := by rw [← hW1]; exact alloc_at (by simp <;> omega)
  have c00 : W1.cell? ⟨w.heap.size, 0, none⟩ = some (.int .i64 C.days) := cell_of_block zc0 0 (by simp)
  have c01 : W1.cell? ⟨w.heap.size, 1, none⟩ = some (.slice C.aA C.nA C.cA) := cell_of_block zc0 1 (by simp)
  have c02 : W1.cell? ⟨w.heap.size, 2, none⟩ = some (.slice C.aW C.nW C.cW) := cell_of_block zc0 2 (by simp)
  have c10 : W1.cell? ⟨w.heap.size + 1, 0, none⟩ = some (.int .i64 x.day) := cell_of_block zc1 0 (by simp)
  have c11 : W1.cell? ⟨w.heap.size + 1, 1, none⟩ = some (.int .i64 x.alo) := cell_of_block zc1 1 (by simp)
  have c12 : W1.cell? ⟨w.heap.size + 1, 2, none⟩ = some (.int .i64 x.ahi) := cell_of_block zc1 2 (by simp)
  have c13 : W1.cell? ⟨w.heap.size + 1, 3, none⟩ = some (.int .i64 x.wlo) := cell_of_block zc1 3 (by simp)
  have c14 : W1.cell? ⟨w.heap.size + 1, 4, none⟩ = some (.int .i64 x.whi) := cell_of_block zc1 4 (by simp)
  have c20 : W1.cell? ⟨w.heap.size + 1 + 1, 0, none⟩ = some (.int .i64 0) := cell_of_block zc2 0 (by simp)
  have c21 : W1.cell? ⟨w.heap.size + 1 + 1, 1, none⟩ = some (.int .i64 0) := cell_of_block zc2 1 (by simp)
  have c22 : W1.cell? ⟨w.heap.size + 1 + 1, 2, none⟩ = some (.int .i64 0) := cell_of_block zc2 2 (by simp)
  have c23 : W1.cell? ⟨w.heap.size + 1 + 1, 3, none⟩ = some (.int .i64 0) := cell_of_block zc2 3 (by simp)
  have c24 : W1.cell? ⟨w.heap.size + 1 + 1, 4, none⟩ = some (.int .i64 0) := cell_of_block zc2 4 (by simp)
  have lc0 := (Array.getElem?_eq_some_iff.1 zc0).1
  have lc1 := (Array.getElem?_eq_some_iff.1 zc1).1
  have lc2 := (Array.getElem?_eq_some_iff.1 zc2).1
  have fc20 := frozen_of_block zc2 0
  have fc21 := frozen_of_block zc2 1
  have fc22 := frozen_of_block zc2 2
  have fc23 := frozen_of_block zc2 3
  have fc24 := frozen_of_block zc2 4
  have Zc0 := Lib.hid zc0
  have Zc1 := Lib.hid zc1
  have Zc2 := Lib.hid zc2
  clear zc0 zc1 zc2
  have HBc := Lib.hid hBc; clear hBc
  have HWc := Lib.hid hW1; clear hW1
  have HC := Lib.hid (hC.below HBc.out); clear hC
  have HS := Lib.hid (hS.below HBc.out); clear hS
  have ER := errorOf_any C x aS k cS F G day W1 HC.out hf hk HS.out
  rw [hE] at ER
  clear hE
  have ER' := Lib.hid ER; clear ER
  go_enter Tryz.func62, Tryz.ntmps62
  go_wp2_with fail
  rw [HWc.out]
  go_wp2_with fail
  refine (Calls.grown ER'.out).mono ?_
  rintro e w1 ⟨rfl, z, rfl⟩
  go_wp2_with fail
  refine bodyPost_ret (v := .tuple #[.agg #[.int .i64 0, .int .i64 0, .int .i64 0, .int .i64 0, .int .i64 0], .int .i64 E]) (by simp [results, Tryz.results62, go_sem, *]) rfl ⟨rfl, ?_⟩
  exact (((((HBc.out.gw z).setCell (by simp <;> omega) _).setCell (by simp <;> omega) _).setCell (by simp <;> omega) _).setCell (by simp <;> omega) _).setCell (by simp <;> omega) _

end Go.Proofs.YtjgnafhbeekebaaGreat.L7

namespace Go.Proofs.YtjgnafhbeekebaaGreat.L7
open Go.RowKit Go.Shelf

attribute [local go_sem] gw_cell gw_frozen gw_size Oper.semAt_some

/-- what the loop's variable was before the round -/
def prevC (C : Clim) (F G : Nat → Int) (n : Nat) (x : Cont) : Nat → Cont
  | 0 => x
  | j + 1 => dayC C F G n x j
structure AtJ (c : Nat → Cont) (w : World) (D : Nat) (rec : Loop) (j : Nat) (V : World) : Prop where
  loop : V.heap[D + 1]? = some (.loop rec)
  dfr : V.heap[D]? = some (.deferred (some []))
  cur : V.heap[w.heap.size + 1]? = some (.cells (c j).cells 32 (0, 0))
  res : V.heap[w.heap.size + 1 + 1]? = some (.cells #[.int .i64 0, .int .i64 0, .int .i64 0, .int .i64 0, .int .i64 0] 32 (0, 0))
  low : Below w.heap.size w V
theorem AtJ.kept {c : Nat → Cont} {w : World} {D : Nat} {rec : Loop} {j : Nat} {V V' : World} {K : Nat} (hD : w.heap.size + 2 < D) (h : AtJ c w D rec j V) (g : V.grownBy V' (some K)) (hK : D + 2 ≤ K) : AtJ c w D rec j V' := by
  have k : ∀ (B : Nat) (o : Obj), V.heap[B]? = some o → B ≠ K → V'.heap[B]? = some o := fun B o ho hne => (g.block B (Array.getElem?_eq_some_iff.1 ho).1 (by simpa using hne)).trans ho
  exact ⟨k _ _ h.loop (by omega), k _ _ h.dfr (by omega), k _ _ h.cur (by omega), k _ _ h.res (by omega), h.low.grown g h.low.size (fun k e => by cases e; omega)⟩
theorem five_set {W : World} {b : Nat} {c : Array Value} {t : TypeId} (hs : c.size = 5) (h : W.heap[b]? = some (.cells c t (0, 0))) (v0 v1 v2 v3 v4 : Value) :
    (((((W.setCell ⟨b, 0, none⟩ v0).setCell ⟨b, 1, none⟩ v1).setCell ⟨b, 2, none⟩ v2).setCell ⟨b, 3, none⟩ v3).setCell ⟨b, 4, none⟩ v4).heap[b]? = some (.cells #[v0, v1, v2, v3, v4] t (0, 0)) := by
  obtain ⟨l⟩ := c
  match l, hs, h with
  | [a0, a1, a2, a3, a4], _, h => exact block_set 4 v4 (block_set 3 v3 (block_set 2 v2 (block_set 1 v1 (block_set 0 v0 h))))
theorem five_grown (W : World) (b : Nat) (v0 v1 v2 v3 v4 : Value) : W.grownBy (((((W.setCell ⟨b, 0, none⟩ v0).setCell ⟨b, 1, none⟩ v1).setCell ⟨b, 2, none⟩ v2).setCell ⟨b, 3, none⟩ v3).setCell ⟨b, 4, none⟩ v4) (some b) :=
  grownBy_trans (grownBy_trans (grownBy_trans (grownBy_trans (grownBy_set W b 0 _) (grownBy_set _ b 1 _)) (grownBy_set _ b 2 _)) (grownBy_set _ b 3 _)) (grownBy_set _ b 4 _)

set_option maxRecDepth 100000 in
set_option maxHeartbeats 4000000 in
theorem At_in (n : Nat) (C : Clim) (x : Cont) (aS : Option Addr) (k cS : Nat) (F G : Nat → Int) (day : Int) (w : World) (hC : C.In w) (hf : C.Fits) (hk : k ≤ 9223372036854775807) (hS : SpansAt w aS k F G) (hE : errH C x k F G day = 0) (m : Nat) (hmd : x.day + m = day) :
    CallsIn Fence.wide n Tryz.prog 62 #[.agg #[.int .i64 C.days, .slice C.aA C.nA C.cA, .slice C.aW C.nW C.cW], x.val, .slice aS k cS, .int .i64 day] w fun e w' => e = .returned (.tuple #[(dayC C F G k x m).val, .int .i64 0]) ∧ Below w.heap.size w w' := by
  obtain ⟨g1, g2, g3, g4, g5, g6⟩ := errH_zero hE
  rw [show x.val = .agg #[.int .i64 x.day, .int .i64 x.alo, .int .i64 x.ahi, .int .i64 x.wlo, .int .i64 x.whi] from rfl]
  have hmf : ∀ (fn : Fn) (first cap : Array Value) (w : World), (Instr.makeFunc fn first cap).run Tryz.prog w = .ok (.func fn first cap) w := fun _ _ _ _ => rfl
  obtain ⟨W1, hW1⟩ : ∃ W1, ((w.alloc (.cells #[.int .i64 C.days, .slice C.aA C.nA C.cA, .slice C.aW C.nW C.cW] 30)).alloc (.cells #[.int .i64 x.day, .int .i64 x.alo, .int .i64 x.ahi, .int .i64 x.wlo, .int .i64 x.whi] 32)).alloc (.cells #[.int .i64 0, .int .i64 0, .int .i64 0, .int .i64 0, .int .i64 0] 32) = W1 := ⟨_, rfl⟩
  have hBc : Below w.heap.size w W1 := by rw [← hW1]; exact ((below_alloc _ _).alloc (by simp) _).alloc (by simp <;> omega) _
  have zc0 : W1.heap[w.heap.size]? = some (.cells #[.int .i64 C.days, .slice C.aA C.nA C.cA, .slice C.aW C.nW C.cW] 30 (0, 0)) := by rw [← hW1]; exact alloc_keep (alloc_keep (alloc_at rfl))
  have zc1 : W1.heap[w.heap.size + 1]? = some (.cells #[.int .i64 x.day, .int .i64 x.alo, .int .i64 x.ahi, .int .i64 x.wlo, .int .i64 x.whi] 32 (0, 0)) := by rw [← hW1]; exact alloc_keep (alloc_at (by simp))
  have zc2 : W1.heap[w.heap.size + 1 + 1]? = some (.cells #[.int .i64 0, .int .i64 0, .int .i64 0, .int .i64 0, .int .i64 0] 32 (0, 0)) := by rw [← hW1]; exact alloc_at (by simp <;> omega)
  have c00 : W1.cell? ⟨w.heap.size, 0, none⟩ = some (.int .i64 C.days) := cell_of_block zc0 0 (by simp)
  have c01 : W1.cell? ⟨w.heap.size, 1, none⟩ = some (.slice C.aA C.nA C.cA) := cell_of_block zc0 1 (by simp)
  have c02 : W1.cell? ⟨w.heap.size, 2, none⟩ = some (.slice C.aW C.nW C.cW) := cell_of_block zc0 2 (by simp)
  have c10 : W1.cell? ⟨w.heap.size + 1, 0, none⟩ = some (.int .i64 x.day) := cell_of_block zc1 0 (by simp)
  have c11 : W1.cell? ⟨w.heap.size + 1, 1, none⟩ = some (.int .i64 x.alo) := cell_of_block zc1 1 (by simp)
  have c12 : W1.cell? ⟨w.heap.size + 1, 2, none⟩ = some (.int .i64 x.ahi) := cell_of_block zc1 2 (by simp)
  have c13 : W1.cell? ⟨w.heap.size + 1, 3, none⟩ = some (.int .i64 x.wlo) := cell_of_block zc1 3 (by simp)
  have c14 : W1.cell? ⟨w.heap.size + 1, 4, none⟩ = some (.int .i64 x.whi) := cell_of_block zc1 4 (by simp)
  have c20 : W1.cell? ⟨w.heap.size + 1 + 1, 0, none⟩ = some (.int .i64 0) := cell_of_block zc2 0 (by simp)
  have c21 : W1.cell? ⟨w.heap.size + 1 + 1, 1, none⟩ = some (.int .i64 0) := cell_of_block zc2 1 (by simp)
  have c22 : W1.cell? ⟨w.heap.size + 1 + 1, 2, none⟩ = some (.int .i64 0) := cell_of_block zc2 2 (by simp)
  have c23 : W1.cell? ⟨w.heap.size + 1 + 1, 3, none⟩ = some (.int .i64 0) := cell_of_block zc2 3 (by simp)
  have c24 : W1.cell? ⟨w.heap.size + 1 + 1, 4, none⟩ = some (.int .i64 0) := cell_of_block zc2 4 (by simp)
  have lc0 := (Array.getElem?_eq_some_iff.1 zc0).1
  have lc1 := (Array.getElem?_eq_some_iff.1 zc1).1
  have lc2 := (Array.getElem?_eq_some_iff.1 zc2).1
  have Zc0 := Lib.hid zc0
  have Zc1 := Lib.hid zc1
  have Zc2 := Lib.hid zc2
  clear zc0 zc1 zc2
  have HBc := Lib.hid hBc; clear hBc
  have HWc := Lib.hid hW1; clear hW1
  have HC := Lib.hid (hC.below HBc.out)
  have HS := Lib.hid (hS.below HBc.out)
  have HCW := Lib.hid hC; clear hC
  have HSW := Lib.hid hS; clear hS
  have ER := errorOf_any C x aS k cS F G day W1 HC.out hf hk HS.out
  rw [hE] at ER
  clear hE
  have ER' := Lib.hid ER; clear ER
  have FM := Lib.hid g6; clear g6
  have MD := Lib.hid hmd; clear hmd
  have DC := Lib.hid (dayC_ok g1 g3 g2); clear g4
  refine callsIn_of_wp_marks Tryz.func62 rfl trivial ?_ rfl
  simp only [Tryz.ntmps62, List.size_toArray, List.length_cons, List.length_nil, Nat.reduceAdd, Nat.reduceSub, Array.replicate_succ, Array.replicate_zero, List.push_toArray, List.append_toArray, List.nil_append, List.cons_append]
  gi_wp2_with fail
  rw [HWc.out]
  gi_wp2_with fail
  refine ⟨trivial, (fun h => (by cases h)), ?_⟩
  refine (callsIn_wide.2 (Calls.grown ER'.out)).mono ?_
  rintro e w1 ⟨rfl, z, rfl⟩
  gi_wp2_with fail
  refine ⟨trivial, (fun h => (by cases h)), ?_⟩
  refine (callsIn_wide.2 (days_any C w.heap.size x aS k cS day (gw W1 z) ⟨((below_gw W1 z).block _ lc0).trans Zc0.out, HC.out.below (below_gw W1 z)⟩ g1)).mono ?_
  rintro e W0 ⟨cur, B, bx, bto, ball, bfl, bcp, bs, rfl, hH, hfil, hb0, hfar⟩
  have BW := Lib.hid (thru hb0 (HBc.out.gw z))
  have K1 := Lib.hid ((hb0.block _ (by rw [gw_size]; omega)).trans (((below_gw W1 z).block _ lc1).trans Zc1.out))
  have K2 := Lib.hid ((hb0.block _ (by rw [gw_size]; omega)).trans (((below_gw W1 z).block _ lc2).trans Zc2.out))
  have SZ : w.heap.size + 3 ≤ W0.heap.size := by have := hb0.size; rw [gw_size] at this; omega
  have FAR := Lib.hid (show ∀ p ∈ daysHeld C cur w.heap.size B bx bto ball bfl bcp bs x day aS k cS, p.1 ≠ w.heap.size + 1 from fun p hp => by
    rcases hfar p hp with h | h
    · omega
    · rw [gw_size] at h; omega)
  have HH := Lib.hid hH; clear hH hfar
  have HFIL := Lib.hid hfil; clear hfil
  clear hb0 c00 c01 c02 c10 c11 c12 c13 c14 c20 c21 c22 c23 c24 lc0 lc1 lc2
  gi_wp2_with fail
  refine wpIn_rangeFunc_X (gf := 94) (lb := #[.pointer (some ⟨bx, 0, none⟩), .pointer (some ⟨bto, 0, none⟩), .pointer (some ⟨ball, 0, none⟩), .pointer (some ⟨bfl, 0, none⟩), .pointer (some ⟨bcp, 0, none⟩)]) rfl (enters_of Tryz.func94 (by kernel_rfl) rfl)
    (fun rec e W => (∃ v, e = .returned v) ∧ (AtJ (prevC C F G k x) w W0.heap.size rec (m + 1) W ∨ ∃ j, j ≤ m ∧ False)) ?call ?ret ?out
  case out => rintro rec e W ⟨h, _⟩; exact h
  case call =>
    intro rec r1 r2 r3 r4 r5 r6
    obtain ⟨W2, hW2⟩ : ∃ W2, (W0.alloc (.deferred (some []))).alloc (.loop rec) = W2 := ⟨_, rfl⟩
    have hB2 : Below W0.heap.size W0 W2 := by rw [← hW2]; exact (below_alloc _ _).alloc (by simp) _
    have hl2 : W2.heap[W0.heap.size + 1]? = some (.loop rec) := by rw [← hW2]; exact alloc_at (by simp)
    have hd2 : W2.heap[W0.heap.size]? = some (.deferred (some [])) := by rw [← hW2]; exact alloc_keep (alloc_at rfl)
    have hs2 : W2.heap.size = W0.heap.size + 2 := by rw [← hW2]; simp
    rw [hW2]
    clear hW2
    obtain ⟨b, off, ea, lb, hc⟩ : ∃ b off, aS = some ⟨b, off, none⟩ ∧ b < w.heap.size ∧ ∀ i, i < k → w.cell? ⟨b, off + i * 2, none⟩ = some (.int .i64 (F i)) ∧ w.cell? ⟨b, off + i * 2 + 1, none⟩ = some (.int .i64 (G i)) := by
      rcases HSW.out with h | h
      · have := (staysB_t g3).1.1; omega
      · exact h
    subst ea
    refine days2_in (n - 1) (W0.heap.size + 1) C cur w.heap.size B bx bto ball bfl bcp bs b off cS k F G x day w W2 (w.heap.size + 1) m g1 HCW.out lb hc g3 g2 g5 MD.out (fun h => FM.out (by have := MD.out; omega)) HFIL.out
      (fun j V => AtJ (prevC C F G k x) w W0.heap.size rec j V) (fun _ _ => False) ?abide ?round (BW.out.trans (hB2.mono BW.out.size)) (HH.out.below hB2) (by omega) (by omega) FAR.out ?start
    case abide => exact fun j K V V' hK h g => h.kept (by omega) g (by omega)
    case start => exact ⟨hl2, hd2, (hB2.block _ (by omega)).trans K1.out, (hB2.block _ (by omega)).trans K2.out, BW.out.trans (hB2.mono BW.out.size)⟩
    case round =>
      intro j V hJ hjm
      refine yieldAt_J hJ.loop r1 r3 r4 r5 r6 rfl ?_
      obtain ⟨y, hy⟩ : ∃ y, dayC C F G k x j = y := ⟨_, rfl⟩
      have HYY := Lib.hid hy
      have HJ := Lib.hid hJ
      rw [hy]
      have HL2 := Lib.hid (And.intro hl2 (And.intro hd2 hs2))
      clear hJ r3 r4 r5 r6 hy hc hl2 hd2 hs2 hB2 hmf
      unfold Cont.val
      gi_wp2_with fail
      refine ⟨alloc_keep HJ.out.loop, ?_⟩
      have hlp := (Array.getElem?_eq_some_iff.1 HJ.out.loop).1
      obtain ⟨Wb, hWb⟩ : ∃ Wb, (V.alloc (.cells #[.int .i64 y.day, .int .i64 y.alo, .int .i64 y.ahi, .int .i64 y.wlo, .int .i64 y.whi] 32)).putObj (W0.heap.size + 1) (.loop { rec with state := .busy }) = Wb := ⟨_, rfl⟩
      have hg1 : V.grownBy Wb (some (W0.heap.size + 1)) := by rw [← hWb]; exact grownBy_trans (World.grownBy_alloc V _ _) (grownBy_putObj' _ _ _)
      have hzb : Wb.heap.size = V.heap.size + 1 := by rw [← hWb]; simp [World.putObj]
      have hdb : Wb.heap[V.heap.size]? = some (.cells #[.int .i64 y.day, .int .i64 y.alo, .int .i64 y.ahi, .int .i64 y.wlo, .int .i64 y.whi] 32 (0, 0)) := by
        rw [← hWb]; exact (World.putObj_heap_other (by omega)).trans (alloc_at rfl)
      have hlb : Wb.heap[W0.heap.size + 1]? = some (.loop { rec with state := .busy }) := by
        rw [← hWb]; exact World.putObj_heap_same (by simp; omega)
      rw [hWb]
      clear hWb
      have hcur := (hg1.block (w.heap.size + 1) (Array.getElem?_eq_some_iff.1 HJ.out.cur).1 (by simp; omega)).trans HJ.out.cur
      have d0 := cell_of_block hdb 0 (by simp)
      have d1 := cell_of_block hdb 1 (by simp)
      have d2 := cell_of_block hdb 2 (by simp)
      have d3 := cell_of_block hdb 3 (by simp)
      have d4 := cell_of_block hdb 4 (by simp)
      simp at d0 d1 d2 d3 d4
      have e0 := cell_of_block hcur 0 (by simp [Cont.cells])
      have e1 := cell_of_block hcur 1 (by simp [Cont.cells])
      have e2 := cell_of_block hcur 2 (by simp [Cont.cells])
      have e3 := cell_of_block hcur 3 (by simp [Cont.cells])
      have e4 := cell_of_block hcur 4 (by simp [Cont.cells])
      simp [Cont.cells] at e0 e1 e2 e3 e4
      have f0 := frozen_of_block hcur 0
      have f1 := frozen_of_block hcur 1
      have f2 := frozen_of_block hcur 2
      have f3 := frozen_of_block hcur 3
      have f4 := frozen_of_block hcur 4
      have HCUR := Lib.hid hcur; clear hcur
      have HG1 := Lib.hid hg1; clear hg1
      have HLB := Lib.hid hlb; clear hlb
      have HZB := Lib.hid hzb; clear hzb hdb
      have HHL := Lib.hid hlp; clear hlp
      gi_wp2_with fail
      have g3' := five_grown Wb (w.heap.size + 1) (.int .i64 y.day) (.int .i64 y.alo) (.int .i64 y.ahi) (.int .i64 y.wlo) (.int .i64 y.whi)
      have hc3 := five_set (by simp [Cont.cells]) HCUR.out (.int .i64 y.day) (.int .i64 y.alo) (.int .i64 y.ahi) (.int .i64 y.wlo) (.int .i64 y.whi)
      obtain ⟨W3, hW3⟩ : ∃ W3, (((((Wb.setCell ⟨w.heap.size + 1, 0, none⟩ (.int .i64 y.day)).setCell ⟨w.heap.size + 1, 1, none⟩ (.int .i64 y.alo)).setCell ⟨w.heap.size + 1, 2, none⟩ (.int .i64 y.ahi)).setCell ⟨w.heap.size + 1, 3, none⟩ (.int .i64 y.wlo)).setCell ⟨w.heap.size + 1, 4, none⟩ (.int .i64 y.whi)) = W3 := ⟨_, rfl⟩
      rw [hW3] at g3' hc3 ⊢
      clear hW3
      have hl3 := (g3'.block (W0.heap.size + 1) (Array.getElem?_eq_some_iff.1 HLB.out).1 (by simp; omega)).trans HLB.out
      have hall := round_grown HJ.out.loop HG1.out g3'
      have hlt3 := (Array.getElem?_eq_some_iff.1 hl3).1
      refine ⟨_, _, run_endRound none hl3, .inl ⟨rfl, ?_, ?_⟩⟩
      · simp only [Option.isNone_none, if_true]
        rw [loop_again r1 r2]
        have kb : ∀ (B : Nat) (o : Obj), V.heap[B]? = some o → B ≠ w.heap.size + 1 → (W3.putObj (W0.heap.size + 1) (.loop rec)).heap[B]? = some o := fun B o ho hne => (hall.block B (Array.getElem?_eq_some_iff.1 ho).1 (by simpa using hne)).trans ho
        exact ⟨kb _ _ HJ.out.loop (by omega), kb _ _ HJ.out.dfr (by omega), by rw [World.putObj_heap_other (by omega), hc3, ← HYY.out]; rfl, kb _ _ HJ.out.res (by omega), HJ.out.low.grown hall HJ.out.low.size (fun k e => by cases e; omega)⟩
      · simp only [Option.isNone_none, if_true]
        rw [loop_again r1 r2]
        exact hall
  case ret =>
    rintro rec v W r1 r2 ⟨-, hJ | ⟨j, -, h⟩⟩
    · refine ⟨rec, hJ.loop, by rw [r1]; simp, ?_⟩
      rw [r2]
      obtain ⟨W5, hW5⟩ : ∃ W5, W.putObj (W0.heap.size + 1) (.loop { rec with state := .exhausted }) = W5 := ⟨_, rfl⟩
      have hg5 : W.grownBy W5 (some (W0.heap.size + 1)) := by rw [← hW5]; exact grownBy_putObj' _ _ _
      have same : ∀ (B : Nat) (o : Obj), W.heap[B]? = some o → B ≠ W0.heap.size + 1 → W5.heap[B]? = some o := fun B o ho hB => (hg5.block B (Array.getElem?_eq_some_iff.1 ho).1 (by simpa using hB)).trans ho
      have hr2 : ({ rec with state := .exhausted, pending := none } : Loop) = { rec with state := .exhausted } := by rw [← r2]
      simp only [← r2] at *
      rw [hW5]
      clear hW5
      have kx : W5.heap[w.heap.size + 1]? = some (.cells (dayC C F G k x m).cells 32 (0, 0)) := same _ _ hJ.cur (by omega)
      have kr := same _ _ hJ.res (by omega)
      have kd := same _ _ hJ.dfr (by omega)
      obtain ⟨y, hy⟩ : ∃ y, dayC C F G k x m = y := ⟨_, rfl⟩
      rw [hy] at kx
      have HYY := Lib.hid hy
      have low5 : Below w.heap.size w W5 := hJ.low.grown hg5 hJ.low.size (fun k e => by cases e; omega)
      have x0 : W5.cell? ⟨w.heap.size + 1, 0, none⟩ = some (.int .i64 y.day) := cell_of_block kx 0 (by simp [Cont.cells])
      have x1 : W5.cell? ⟨w.heap.size + 1, 1, none⟩ = some (.int .i64 y.alo) := cell_of_block kx 1 (by simp [Cont.cells])
      have x2 : W5.cell? ⟨w.heap.size + 1, 2, none⟩ = some (.int .i64 y.ahi) := cell_of_block kx 2 (by simp [Cont.cells])
      have x3 : W5.cell? ⟨w.heap.size + 1, 3, none⟩ = some (.int .i64 y.wlo) := cell_of_block kx 3 (by simp [Cont.cells])
      have x4 : W5.cell? ⟨w.heap.size + 1, 4, none⟩ = some (.int .i64 y.whi) := cell_of_block kx 4 (by simp [Cont.cells])
      have e0 := cell_of_block kr 0 (by simp)
      have e1 := cell_of_block kr 1 (by simp)
      have e2 := cell_of_block kr 2 (by simp)
      have e3 := cell_of_block kr 3 (by simp)
      have e4 := cell_of_block kr 4 (by simp)
      simp at e0 e1 e2 e3 e4
      have f0 := frozen_of_block kr 0
      have f1 := frozen_of_block kr 1
      have f2 := frozen_of_block kr 2
      have f3 := frozen_of_block kr 3
      have f4 := frozen_of_block kr 4
      have KR := Lib.hid kr
      have KD := Lib.hid kd
      have LOW5 := Lib.hid low5
      clear same kx kr kd hy low5 hg5 hJ hr2
      gi_wp2_with fail
      have g3' := five_grown W5 (w.heap.size + 1 + 1) (.int .i64 y.day) (.int .i64 y.alo) (.int .i64 y.ahi) (.int .i64 y.wlo) (.int .i64 y.whi)
      have hc3 := five_set (by simp) KR.out (.int .i64 y.day) (.int .i64 y.alo) (.int .i64 y.ahi) (.int .i64 y.wlo) (.int .i64 y.whi)
      obtain ⟨W3, hW3⟩ : ∃ W3, (((((W5.setCell ⟨w.heap.size + 1 + 1, 0, none⟩ (.int .i64 y.day)).setCell ⟨w.heap.size + 1 + 1, 1, none⟩ (.int .i64 y.alo)).setCell ⟨w.heap.size + 1 + 1, 2, none⟩ (.int .i64 y.ahi)).setCell ⟨w.heap.size + 1 + 1, 3, none⟩ (.int .i64 y.wlo)).setCell ⟨w.heap.size + 1 + 1, 4, none⟩ (.int .i64 y.whi)) = W3 := ⟨_, rfl⟩
      rw [hW3] at g3' hc3 ⊢
      clear hW3
      have xd := (g3'.block _ (Array.getElem?_eq_some_iff.1 KD.out).1 (by simp; omega)).trans KD.out
      unfold bodyPostM
      refine ⟨by simp, .inl ⟨W0.heap.size, _, rfl, run_takeDeferred xd, ?_⟩⟩
      have zr : (W3.putObj W0.heap.size (.deferred none)).heap[w.heap.size + 1 + 1]? = _ := (World.putObj_heap_other (by omega)).trans hc3
      have b0 := cell_of_block zr 0 (by simp)
      have b1 := cell_of_block zr 1 (by simp)
      have b2 := cell_of_block zr 2 (by simp)
      have b3 := cell_of_block zr 3 (by simp)
      have b4 := cell_of_block zr 4 (by simp)
      simp at b0 b1 b2 b3 b4
      refine ⟨.tuple #[.agg #[.int .i64 y.day, .int .i64 y.alo, .int .i64 y.ahi, .int .i64 y.wlo, .int .i64 y.whi], .int .i64 0], by simp [results, Tryz.results62, go_sem, b0, b1, b2, b3, b4], by rw [HYY.out]; rfl, ?_⟩
      exact (LOW5.out.grown g3' LOW5.out.size (fun k e => by cases e; omega)).grown (grownBy_putObj' _ _ _) (by have := LOW5.out.size; have := g3'.size; omega) (fun k e => by cases e; omega)
    · exact h.elim
theorem At_ok (C : Clim) (x : Cont) (aS : Option Addr) (k cS : Nat) (F G : Nat → Int) (day : Int) (w : World) (hC : C.In w) (hf : C.Fits) (hk : k ≤ 9223372036854775807) (hS : SpansAt w aS k F G) (hE : errH C x k F G day = 0) :
    Calls Tryz.prog 62 #[.agg #[.int .i64 C.days, .slice C.aA C.nA C.cA, .slice C.aW C.nW C.cW], x.val, .slice aS k cS, .int .i64 day] w fun e w' => e = .returned (.tuple #[(dayC C F G k x (day - x.day).toNat).val, .int .i64 0]) ∧ Below w.heap.size w w' :=
  callsIn_wide.1 (At_in 4 C x aS k cS F G day w hC hf hk hS hE _ (by have := (errH_zero hE).2.2.2.1; omega))
end Go.Proofs.YtjgnafhbeekebaaGreat.L7

namespace Go.Proofs.YtjgnafhbeekebaaGreat.L7
open Go.RowKit

attribute [local go_sem] gw_cell gw_frozen gw_size

/-- a measurement -/
structure Reg where
  day : Int
  vlo : Int
  vhi : Int
  slo : Int
  shi : Int
def Reg.val (x : Reg) : Value := .agg #[.int .i64 x.day, .int .i64 x.vlo, .int .i64 x.vhi, .int .i64 x.slo, .int .i64 x.shi]
def regB (x : Reg) : Bool := inB x.day 0 65536 && (spanB x.vlo x.vhi 0 2147483648 && spanB x.slo x.shi 0 10000)
theorem regB_t {x : Reg} (h : regB x = true) : (0 ≤ x.day ∧ x.day ≤ 65536) ∧ (0 ≤ x.vlo ∧ x.vlo ≤ x.vhi ∧ x.vhi ≤ 2147483648) ∧ (0 ≤ x.slo ∧ x.slo ≤ x.shi ∧ x.shi ≤ 10000) := by
  simp only [regB, Bool.and_eq_true] at h
  exact ⟨inB_t.1 h.1, spanB_t.1 h.2.1, spanB_t.1 h.2.2⟩

set_option maxHeartbeats 1000000 in
theorem isRegauge_any (x : Reg) (w : World) :
    Calls Tryz.prog 61 #[.agg #[.int .i64 x.day, .int .i64 x.vlo, .int .i64 x.vhi, .int .i64 x.slo, .int .i64 x.shi]] w fun e w' => e = .returned (.bool (regB x)) ∧ Below w.heap.size w w' := by
  obtain ⟨W1, hW1⟩ : ∃ W1, w.alloc (.cells #[.int .i64 x.day, .int .i64 x.vlo, .int .i64 x.vhi, .int .i64 x.slo, .int .i64 x.shi] 58) = W1 := ⟨_, rfl⟩
  have hB : Below w.heap.size w W1 := by rw [← hW1]; exact below_alloc _ _
  have hk : W1.heap[w.heap.size]? = some (.cells #[.int .i64 x.day, .int .i64 x.vlo, .int .i64 x.vhi, .int .i64 x.slo, .int .i64 x.shi] 58 (0, 0)) := by rw [← hW1]; exact World.alloc_heap_new w _
  have k0 : W1.cell? ⟨w.heap.size, 0, none⟩ = some (.int .i64 x.day) := cell_of_block hk 0 (by simp)
  have k1 : W1.cell? ⟨w.heap.size, 1, none⟩ = some (.int .i64 x.vlo) := cell_of_block hk 1 (by simp)
  have k2 : W1.cell? ⟨w.heap.size, 2, none⟩ = some (.int .i64 x.vhi) := cell_of_block hk 2 (by simp)
  have k3 : W1.cell? ⟨w.heap.size, 3, none⟩ = some (.int .i64 x.slo) := cell_of_block hk 3 (by simp)
  have k4 : W1.cell? ⟨w.heap.size, 4, none⟩ = some (.int .i64 x.shi) := cell_of_block hk 4 (by simp)
  have lt := (Array.getElem?_eq_some_iff.1 hk).1
  have HB := Lib.hid hB; clear hB hk
  have HW1 := Lib.hid hW1; clear hW1
  cases h1 : inB x.day 0 65536 with
  | false =>
    have RB := Lib.hid (show regB x = false by unfold regB; rw [h1]; rfl)
    have H1 := Lib.hid h1; clear h1
    go_enter Tryz.func61, Tryz.ntmps61
    go_wp2_with fail
    rw [HW1.out]
    go_wp2_with fail
    refine (within_b _ _ _ _ H1.out).mono ?_
    rintro e w1 ⟨rfl, rfl⟩
    go_wp2_with fail
    go_ret
    exact ⟨by rw [RB.out]; rfl, HB.out⟩
  | true =>
    cases h2 : spanB x.vlo x.vhi 0 2147483648 with
    | false =>
      have RB := Lib.hid (show regB x = false by unfold regB; rw [h1, h2]; rfl)
      have H1 := Lib.hid h1; clear h1
      have H2 := Lib.hid h2; clear h2
      go_enter Tryz.func61, Tryz.ntmps61
      go_wp2_with fail
      rw [HW1.out]
      go_wp2_with fail
      refine (within_b _ _ _ _ H1.out).mono ?_
      rintro e w1 ⟨rfl, rfl⟩
      go_wp2_with fail
      refine (Calls.grown (isSpan_b _ _ _ _ _ H2.out)).mono ?_
      rintro e w1 ⟨rfl, y, rfl⟩
      go_wp2_with fail
      go_ret
      exact ⟨by rw [RB.out]; rfl, HB.out.gw y⟩
    | true =>
      cases h3 : spanB x.slo x.shi 0 10000
      all_goals
        have RB := Lib.hid (show regB x = _ by unfold regB; rw [h1, h2, h3])
        have H1 := Lib.hid h1; clear h1
        have H2 := Lib.hid h2; clear h2
        have H3 := Lib.hid h3; clear h3
        go_enter Tryz.func61, Tryz.ntmps61
        go_wp2_with fail
        rw [HW1.out]
        go_wp2_with fail
        refine (within_b _ _ _ _ H1.out).mono ?_
        rintro e w1 ⟨rfl, rfl⟩
        go_wp2_with fail
        refine (Calls.grown (isSpan_b _ _ _ _ _ H2.out)).mono ?_
        rintro e w1 ⟨rfl, y, rfl⟩
        go_wp2_with fail
        refine (Calls.gw_of (isSpan_b _ _ _ _ _ H3.out)).mono ?_
        rintro e w1 ⟨rfl, z, rfl⟩
        go_wp2_with fail
        go_ret
        exact ⟨by rw [RB.out]; rfl, HB.out.gw z⟩

theorem isRegauge_b {b : Bool} (x : Reg) (w : World) (h : regB x = b) :
    Calls Tryz.prog 61 #[.agg #[.int .i64 x.day, .int .i64 x.vlo, .int .i64 x.vhi, .int .i64 x.slo, .int .i64 x.shi]] w fun e w' => e = .returned (.bool b) ∧ Below w.heap.size w w' := h ▸ isRegauge_any x w
def partLo (a s : Int) : Int := a * s / 10000
def partHi (a s : Int) : Int := upI (a * s) 10000
/-- what was measured, as a content -/
def measC (x : Reg) : Cont := ⟨x.day, partLo x.vlo x.slo, partHi x.vhi x.shi, partLo x.vlo (10000 - x.shi), partHi x.vhi (10000 - x.slo)⟩
theorem mul_le {a b c d : Int} (h0 : 0 ≤ a) (h1 : a ≤ c) (h2 : 0 ≤ b) (h3 : b ≤ d) : 0 ≤ a * b ∧ a * b ≤ c * d := ⟨Int.mul_nonneg h0 h2, Int.mul_le_mul h1 h3 h2 (by omega)⟩
theorem part_range {a s b t : Int} (h0 : 0 ≤ a) (h1 : a ≤ b) (h2 : 0 ≤ s) (h3 : s ≤ t) (h4 : t ≤ 10000) : 0 ≤ partLo a s ∧ partLo a s ≤ partHi b t ∧ partHi b t ≤ b := by
  have m := mul_le h0 h1 h2 h3
  have m2 : b * t ≤ b * 10000 := Int.mul_le_mul_of_nonneg_left h4 (by omega)
  unfold partLo partHi upI
  omega
theorem measC_ok {x : Reg} (h : regB x = true) : contB (measC x) = true := by
  obtain ⟨d, ⟨v0, v1, v2⟩, s0, s1, s2⟩ := regB_t h
  have p := part_range v0 v1 s0 s1 s2
  have q := part_range (s := 10000 - x.shi) (t := 10000 - x.slo) v0 v1 (by omega) (by omega) (by omega)
  simp only [contB, Bool.and_eq_true]
  exact ⟨inB_t.2 d, spanB_t.2 ⟨p.1, p.2.1, by show partHi x.vhi x.shi ≤ _; omega⟩, spanB_t.2 ⟨q.1, q.2.1, by show partHi x.vhi (10000 - x.slo) ≤ _; omega⟩⟩

set_option maxHeartbeats 2000000 in
theorem part_any (lo hi sl sh : Int) (w : World) (h0 : 0 ≤ lo) (h1 : lo ≤ hi) (h2 : hi ≤ 2147483648) (h3 : 0 ≤ sl) (h4 : sl ≤ sh) (h5 : sh ≤ 10000) :
    Calls Tryz.prog 63 #[.agg #[.int .i64 lo, .int .i64 hi], .agg #[.int .i64 sl, .int .i64 sh]] w fun e w' => e = .returned (.agg #[.int .i64 (partLo lo sl), .int .i64 (partHi hi sh)]) ∧ Below w.heap.size w w' := by
  obtain ⟨m1, m2⟩ := mul_le h0 (show lo ≤ 2147483648 by omega) h3 (show sl ≤ 10000 by omega)
  obtain ⟨m3, m4⟩ := mul_le (show 0 ≤ hi by omega) (show hi ≤ 2147483648 by omega) (show 0 ≤ sh by omega) (show sh ≤ 10000 by omega)
  have LL := Lib.hid (show partLo lo sl = lo * sl / 10000 from rfl)
  have LH := Lib.hid (show partHi hi sh = upI (hi * sh) 10000 from rfl)
  go_enter Tryz.func63, Tryz.ntmps63
  go_wp2
  refine wp_region_gw_tail 12 (by kernel_rfl) (by kernel_rfl) ?_
  simp only [List.take_succ_cons, List.take_zero]
  repeat (go_big_quiet_step (((go_at_call 67; exact Calls.gw_of_same ((up_any _ _ _ (by omega) (by omega) (by omega) (by omega)))))))
  refine wpQuiet_nil ?_
  rintro _ ⟨x, rfl⟩
  simp only [List.drop_succ_cons, List.drop_zero]
  go_wp2
  rw [LL.out, LH.out]
  refine bodyPost_ret (v := .agg #[.int .i64 (lo * sl / 10000), .int .i64 (upI (hi * sh) 10000)]) (by simp [results, Tryz.results63, go_sem]) rfl ⟨rfl, ?_⟩
  exact (((((((Below.refl _ w).alloc (Nat.le_refl _) _).alloc (by simp) _).alloc (by simp; omega) _).gw x).setCell (by simp <;> omega) _).setCell (by simp <;> omega) _)

set_option maxRecDepth 100000 in
set_option maxHeartbeats 2000000 in
theorem measured_any (x : Reg) (w : World) (hx : regB x = true) :
    Calls Tryz.prog 38 #[x.val] w fun e w' => e = .returned (measC x).val ∧ Below w.heap.size w w' := by
  obtain ⟨⟨d0, d1⟩, ⟨v0, v1, v2⟩, s0, s1, s2⟩ := regB_t hx
  clear hx
  have P1 := Lib.hid (fun W => part_any x.vlo x.vhi x.slo x.shi W v0 v1 v2 s0 s1 s2)
  have P2 := Lib.hid (fun W => part_any x.vlo x.vhi (10000 - x.shi) (10000 - x.slo) W v0 v1 v2 (by omega) (by omega) (by omega))
  rw [show (measC x).val = .agg #[.int .i64 x.day, .int .i64 (partLo x.vlo x.slo), .int .i64 (partHi x.vhi x.shi), .int .i64 (partLo x.vlo (10000 - x.shi)), .int .i64 (partHi x.vhi (10000 - x.slo))] from rfl]
  unfold Reg.val
  obtain ⟨W1, hW1⟩ : ∃ W1, ((w.alloc (.cells #[.int .i64 x.day, .int .i64 x.vlo, .int .i64 x.vhi, .int .i64 x.slo, .int .i64 x.shi] 58)).alloc (.cells #[.int .i64 0, .int .i64 0, .int .i64 0, .int .i64 0, .int .i64 0] 32)).alloc (.cells #[.int .i64 (10000 - x.shi), .int .i64 (10000 - x.slo)] 27) = W1 := ⟨_, rfl⟩
  have hBc : Below w.heap.size w W1 := by rw [← hW1]; exact ((below_alloc _ _).alloc (by simp) _).alloc (by simp <;> omega) _
  have zc0 : W1.heap[w.heap.size]? = some (.cells #[.int .i64 x.day, .int .i64 x.vlo, .int .i64 x.vhi, .int .i64 x.slo, .int .i64 x.shi] 58 (0, 0)) := by rw [← hW1]; exact alloc_keep (alloc_keep (alloc_at rfl))
  have zc1 : W1.heap[w.heap.size + 1]? = some (.cells #[.int .i64 0, .int .i64 0, .int .i64 0, .int .i64 0, .int .i64 0] 32 (0, 0)) := by rw [← hW1]; exact alloc_keep (alloc_at (by simp))
  have zc2 : W1.heap[w.heap.size + 1 + 1]? = some (.cells #[.int .i64 (10000 - x.shi), .int .i64 (10000 - x.slo)] 27 (0, 0)) := by rw [← hW1]; exact alloc_at (by simp <;> omega)
  have c00 : W1.cell? ⟨w.heap.size, 0, none⟩ = some (.int .i64 x.day) := cell_of_block zc0 0 (by simp)
  have c01 : W1.cell? ⟨w.heap.size, 1, none⟩ = some (.int .i64 x.vlo) := cell_of_block zc0 1 (by simp)
  have c02 : W1.cell? ⟨w.heap.size, 2, none⟩ = some (.int .i64 x.vhi) := cell_of_block zc0 2 (by simp)
  have c03 : W1.cell? ⟨w.heap.size, 3, none⟩ = some (.int .i64 x.slo) := cell_of_block zc0 3 (by simp)
  have c04 : W1.cell? ⟨w.heap.size, 4, none⟩ = some (.int .i64 x.shi) := cell_of_block zc0 4 (by simp)
  have c10 : W1.cell? ⟨w.heap.size + 1, 0, none⟩ = some (.int .i64 0) := cell_of_block zc1 0 (by simp)
  have c11 : W1.cell? ⟨w.heap.size + 1, 1, none⟩ = some (.int .i64 0) := cell_of_block zc1 1 (by simp)
  have c12 : W1.cell? ⟨w.heap.size + 1, 2, none⟩ = some (.int .i64 0) := cell_of_block zc1 2 (by simp)
  have c13 : W1.cell? ⟨w.heap.size + 1, 3, none⟩ = some (.int .i64 0) := cell_of_block zc1 3 (by simp)
  have c14 : W1.cell? ⟨w.heap.size + 1, 4, none⟩ = some (.int .i64 0) := cell_of_block zc1 4 (by simp)
  have c20 : W1.cell? ⟨w.heap.size + 1 + 1, 0, none⟩ = some (.int .i64 (10000 - x.shi)) := cell_of_block zc2 0 (by simp)
  have c21 : W1.cell? ⟨w.heap.size + 1 + 1, 1, none⟩ = some (.int .i64 (10000 - x.slo)) := cell_of_block zc2 1 (by simp)
  have lc0 := (Array.getElem?_eq_some_iff.1 zc0).1
  have lc1 := (Array.getElem?_eq_some_iff.1 zc1).1
  have lc2 := (Array.getElem?_eq_some_iff.1 zc2).1
  have Zc1 := Lib.hid zc1
  clear zc0 zc1 zc2
  have HBc := Lib.hid hBc; clear hBc
  have HWc := Lib.hid hW1; clear hW1
  go_enter Tryz.func38, Tryz.ntmps38
  go_wp2_with fail
  rw [HWc.out]
  refine wp_region_gw_tail 11 (by kernel_rfl) (by kernel_rfl) ?_
  simp only [List.take_succ_cons, List.take_zero]
  repeat (go_big_quiet_step ((go_at_call 63; first | (with_reducible exact Calls.gw_of (P1.out _)) | (with_reducible exact Calls.gw_of (P2.out _)))))
  refine wpQuiet_nil ?_
  rintro _ ⟨z, rfl⟩
  obtain ⟨V, hV⟩ : ∃ V, gw W1 z = V := ⟨_, rfl⟩
  have z1 := ((below_gw W1 z).block _ lc1).trans Zc1.out
  have BV := Lib.hid (HBc.out.gw z)
  rw [hV] at z1 BV ⊢
  clear hV
  have g0 := cell_of_block z1 0 (by simp)
  have g1 := cell_of_block z1 1 (by simp)
  have g2 := cell_of_block z1 2 (by simp)
  have g3 := cell_of_block z1 3 (by simp)
  have g4 := cell_of_block z1 4 (by simp)
  have f0 := frozen_of_block z1 0
  have f1 := frozen_of_block z1 1
  have f2 := frozen_of_block z1 2
  have f3 := frozen_of_block z1 3
  have f4 := frozen_of_block z1 4
  clear z1 c00 c01 c02 c03 c04 c10 c11 c12 c13 c14 c20 c21
  simp only [List.drop_succ_cons, List.drop_zero]
  go_wp2_with fail
  refine bodyPost_ret (v := .agg #[.int .i64 x.day, .int .i64 (partLo x.vlo x.slo), .int .i64 (partHi x.vhi x.shi), .int .i64 (partLo x.vlo (10000 - x.shi)), .int .i64 (partHi x.vhi (10000 - x.slo))]) (by simp [results, Tryz.results38, go_sem, *]) rfl ⟨rfl, ?_⟩
  exact (((((BV.out.setCell (by simp <;> omega) _).setCell (by simp <;> omega) _).setCell (by simp <;> omega) _).setCell (by simp <;> omega) _).setCell (by simp <;> omega) _)

end Go.Proofs.YtjgnafhbeekebaaGreat.L7
