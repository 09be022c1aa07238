/- Contract of Ferment behind its first errors. No conditions beyond each theorem's own. -/
import Derived.Test.YtfefmgadfklgmaaBm
set_option linter.unusedVariables false
set_option linter.unusedSimpArgs false
set_option linter.unusedSectionVars false
set_option linter.constructorNameAsVariable false
namespace Go.Proofs.Ytfefmgadfklgmaa
open Go.RowKit Go.Shelf

attribute [local go_sem] Oper.semAt_some gw_cell gw_frozen gw_size

def Vat.num (v : Vat) (q : Nat) : Int := match q with
  | 0 => v.sl
  | 1 => v.sh
  | 2 => v.el
  | 3 => v.eh
  | 4 => v.pl
  | 5 => v.ph
  | 6 => v.gl
  | 7 => v.gh
  | 8 => v.ol
  | 9 => v.oh
  | 10 => v.tl
  | 11 => v.th
  | _ => v.c
def Yst.outs (y : Yst) (v : Vat) (F G : Nat → Int) (j : Nat) : List Value := tupsV 13 j fun i q => (y.vs v F G (i + 1)).num q
theorem Yst.outs_succ (y : Yst) (v : Vat) (F G : Nat → Int) (j : Nat) : y.outs v F G (j + 1) = y.outs v F G j ++ [.int .i64 (y.vs v F G (j + 1)).sl, .int .i64 (y.vs v F G (j + 1)).sh, .int .i64 (y.vs v F G (j + 1)).el, .int .i64 (y.vs v F G (j + 1)).eh, .int .i64 (y.vs v F G (j + 1)).pl, .int .i64 (y.vs v F G (j + 1)).ph, .int .i64 (y.vs v F G (j + 1)).gl, .int .i64 (y.vs v F G (j + 1)).gh, .int .i64 (y.vs v F G (j + 1)).ol, .int .i64 (y.vs v F G (j + 1)).oh, .int .i64 (y.vs v F G (j + 1)).tl, .int .i64 (y.vs v F G (j + 1)).th, .int .i64 (y.vs v F G (j + 1)).c] := by
  unfold Yst.outs; rw [tupsV_succ]; rfl
theorem infoVat : (Try.prog.info? 53).map (fun i => (i.zero, i.size, i.bytes)) = some (some (.agg #[.int .i64 0, .int .i64 0, .int .i64 0, .int .i64 0, .int .i64 0, .int .i64 0, .int .i64 0, .int .i64 0, .int .i64 0, .int .i64 0, .int .i64 0, .int .i64 0, .int .i64 0]), 13, 104) := by kernel_rfl

/-- between two rounds: D: the block for deferred calls -/
structure Btw (y : Yst) (v : Vat) (F G : Nat → Int) (w : World) (D : Nat) (rec : Loop) (j : Nat) (W : World) : Prop where
  row : ∃ vl, Boxed W (w.heap.size + 1 + 1) 54 vl ∧ W.ownsRow D 53 13 vl j (y.outs v F G j)
  err : Boxed W (w.heap.size + 1 + 1 + 1) 44 (.int .i64 0)
  loop : W.heap[D + 1]? = some (.loop rec)
  dfr : W.heap[D]? = some (.deferred (some []))
  low : Below w.heap.size w W
section
variable {y : Yst} {v : Vat} {F G : Nat → Int} {w : World} {D : Nat} {rec : Loop} {j : Nat} {W : World}
theorem Btw.kept {W' : World} {K : Nat} (h : Btw y v F G w D rec j W) (hg : W.grownBy W' (some K)) (h1 : w.heap.size + 4 ≤ K) (h2 : K < D) : Btw y v F G w D rec j W' := by
  have same : ∀ (B : Nat) (o : Obj), B ≠ K → W.heap[B]? = some o → W'.heap[B]? = some o := fun B o hB ho => (hg.block B (Array.getElem?_eq_some_iff.1 ho).1 (by simpa using hB)).trans ho
  obtain ⟨vl, hb, hr⟩ := h.row
  exact ⟨⟨vl, hb.kept hg (by simp; omega), hr.kept hg (.inr (Ne.symm (row_low hr h2)))⟩, h.err.kept hg (by simp; omega), same _ _ (by omega) h.loop, same _ _ (by omega) h.dfr, h.low.grown hg h.low.size (fun k e => by cases e; omega)⟩

theorem round_done {Wb w3 : World} {vl : Value} {tmp : Obj} {g' cap' b1 b2 b3 b4 : Nat} (hD : w.heap.size + 4 ≤ D) (h : Btw y v F G w D rec j W)
    (hrow : W.ownsRow D 53 13 vl j (y.outs v F G j)) (hg1 : W.grownBy Wb (some (D + 1))) {r' : Loop} (hlb : Wb.heap[D + 1]? = some (.loop r'))
    (hgrow : (Wb.alloc tmp).grownBy w3 vl.ownBlock) (hv1 : Boxed w3 (w.heap.size + 1 + 1) 54 vl)
    (hown : w3.ownsRow D 53 13 (.slice (some ⟨g', 0, none⟩) (j + 1) cap') (j + 1) (y.outs v F G j ++ [.int .i64 (y.vs v F G (j + 1)).sl, .int .i64 (y.vs v F G (j + 1)).sh, .int .i64 (y.vs v F G (j + 1)).el, .int .i64 (y.vs v F G (j + 1)).eh, .int .i64 (y.vs v F G (j + 1)).pl, .int .i64 (y.vs v F G (j + 1)).ph, .int .i64 (y.vs v F G (j + 1)).gl, .int .i64 (y.vs v F G (j + 1)).gh, .int .i64 (y.vs v F G (j + 1)).ol, .int .i64 (y.vs v F G (j + 1)).oh, .int .i64 (y.vs v F G (j + 1)).tl, .int .i64 (y.vs v F G (j + 1)).th, .int .i64 (y.vs v F G (j + 1)).c]))
    (k1 : b1 < D ∧ b1 ≠ w.heap.size + 1 + 1) (k2 : b2 < D ∧ b2 ≠ w.heap.size + 1 + 1) (k3 : b3 < D ∧ b3 ≠ w.heap.size + 1 + 1) (k4 : b4 < D ∧ b4 ≠ w.heap.size + 1 + 1) :
    (w3.setCell ⟨w.heap.size + 1 + 1, 0, none⟩ (.slice (some ⟨g', 0, none⟩) (j + 1) cap')).heap[D + 1]? = some (.loop r') ∧ Btw y v F G w D rec (j + 1) ((w3.setCell ⟨w.heap.size + 1 + 1, 0, none⟩ (.slice (some ⟨g', 0, none⟩) (j + 1) cap')).putObj (D + 1) (.loop rec)) ∧
    VKept b1 b2 b3 b4 W ((w3.setCell ⟨w.heap.size + 1 + 1, 0, none⟩ (.slice (some ⟨g', 0, none⟩) (j + 1) cap')).putObj (D + 1) (.loop rec)) := by
  have hz : W.heap.size ≤ w3.heap.size := by have := hg1.size; have := hgrow.size; simp at this; omega
  have hDl := (Array.getElem?_eq_some_iff.1 h.loop).1
  obtain ⟨W4, hW4⟩ : ∃ W4, w3.setCell ⟨w.heap.size + 1 + 1, 0, none⟩ (.slice (some ⟨g', 0, none⟩) (j + 1) cap') = W4 := ⟨_, rfl⟩
  have hz4 : w3.heap.size ≤ W4.heap.size := by rw [← hW4]; exact (KeepsWalks.setCell w3 _ _).size
  have chain : ∀ B, B < W.heap.size → B ≠ D + 1 → B ≠ w.heap.size + 1 + 1 → some B ≠ vl.ownBlock → (W4.putObj (D + 1) (.loop rec)).heap[B]? = W.heap[B]? := fun B h1 h2 h3 h4 => by
    rw [World.putObj_heap_other h2, ← hW4, Below.heap_setCell _ _ _ _ h3, hgrow.block B (by have := hg1.size; simp; omega) h4, Below.heap_alloc _ _ _ (by have := hg1.size; omega)]
    exact hg1.block B h1 (by simpa using h2)
  have hv2 : Boxed W4 (w.heap.size + 1 + 1) 54 (.slice (some ⟨g', 0, none⟩) (j + 1) cap') := by rw [← hW4]; exact hv1.set _
  have hown4 : W4.ownsRow D 53 13 (.slice (some ⟨g', 0, none⟩) (j + 1) cap') (j + 1) (y.outs v F G (j + 1)) := by
    rw [← hW4, y.outs_succ]
    exact hown.kept (grownBy_setCell' w3 (w.heap.size + 1 + 1) _) (.inr (hv1.not_row (by decide) hown).symm)
  have hl4 : W4.heap[D + 1]? = some (.loop r') := by
    rw [← hW4, Below.heap_setCell _ _ _ _ (by simp; omega), hgrow.block (D + 1) (by have := hg1.size; simp; omega) (far_row hrow h.loop (fun _ e => by cases e)), Below.heap_alloc _ _ _ (by have := hg1.size; omega)]
    exact hlb
  have hown5 := ownsRow_putObj hown4 (.loop rec) hl4 rfl
  have hD1 := (Array.getElem?_eq_some_iff.1 hl4).1
  have hlow : Below w.heap.size w (W4.putObj (D + 1) (.loop rec)) := by
    have l0 := h.low
    have l1 : Below w.heap.size W (W4.putObj (D + 1) (.loop rec)) := by
      refine ⟨?_, ?_, ?_, ?_, fun k hk => chain k (Nat.lt_of_lt_of_le hk l0.size) (by omega) (by omega) (row_low hrow (by omega))⟩
      · have e1 := hg1.os; have e2 := hgrow.os; rw [← hW4]; exact e2.trans e1
      · have e1 := hg1.tape; have e2 := hgrow.tape; rw [← hW4]; exact e2.trans e1
      · have e1 := hg1.output; have e2 := hgrow.output; rw [← hW4]; exact e2.trans e1
      · simp; omega
    exact l0.trans l1
  rw [hW4]
  have le := (Array.getElem?_eq_some_iff.1 h.err).1
  have ld := (Array.getElem?_eq_some_iff.1 h.dfr).1
  refine ⟨hl4, ⟨⟨_, (World.putObj_heap_other (by omega)).trans hv2, hown5⟩, (chain _ le (by omega) (by omega) (row_low hrow (by omega))).trans h.err, World.putObj_heap_same hD1, (chain _ ld (by omega) (by omega) (far_row hrow h.dfr (fun _ e => by cases e))).trans h.dfr, hlow⟩, ?_⟩
  exact ⟨by simp; omega, chain _ (by omega) (by omega) k1.2 (row_low hrow k1.1), chain _ (by omega) (by omega) k2.2 (row_low hrow k2.1), chain _ (by omega) (by omega) k3.2 (row_low hrow k3.1), chain _ (by omega) (by omega) k4.2 (row_low hrow k4.1)⟩
end
/-- how Ferment ends -/
def FerEnds (y : Yst) (v : Vat) (F G : Nat → Int) (k m : Nat) (w : World) (e : Ending) (w' : World) : Prop :=
  Below w.heap.size w w' ∧ ((m = k ∧ ∃ vl, e = .returned (.tuple #[vl, .int .i64 0]) ∧ w'.ownsRow w.heap.size 53 13 vl k (y.outs v F G k)) ∨ (m < k ∧ e = .returned (.tuple #[.slice none 0 0, .int .i64 12])))

set_option maxRecDepth 100000 in
set_option maxHeartbeats 16000000 in
theorem ferMain_in (n : Nat) (aC : Option Addr) (k cC : Nat) (F G : Nat → Int) (y : Yst) (v : Vat) (m : Nat) (hn : 3 ≤ n) (w : World) (hI : y.In w) (hf : y.Fits) (hB : ystB y = true) (hv : vatB v = true) (hC : SpansAt w aC k F G)
    (hCC : allB k (inSp 150000 F G) = true) (hk : k ≤ 200) (hmk : m ≤ k) (hgo : ∀ j, j < m → vatB (y.vs v F G (j + 1)) = true) (hst : m < k → vatB (y.vs v F G (m + 1)) = false) :
    CallsIn Fence.wide n Try.prog 11 #[y.val, v.val, .slice aC k cC] w (FerEnds y v F G k m w) := by
  have hmf : ∀ (fn : Fn) (first cap : Array Value) (w : World), (Instr.makeFunc fn first cap).run Try.prog w = .ok (.func fn first cap) w := fun _ _ _ _ => rfl
  have hCB : ∀ i, i < k → 0 ≤ F i ∧ F i ≤ G i ∧ G i ≤ 150000 := fun i hi => spanB_t.1 (allB_t.1 hCC i hi)
  rw [show y.val = .agg #[.slice y.aT y.nT y.cT, .slice y.aR y.nR y.cR, .int .i64 y.sl, .int .i64 y.sh, .int .i64 y.gl, .int .i64 y.gh, .int .i64 y.hl, .int .i64 y.hh] from rfl, show v.val = .agg #[.int .i64 v.sl, .int .i64 v.sh, .int .i64 v.el, .int .i64 v.eh, .int .i64 v.pl, .int .i64 v.ph, .int .i64 v.gl, .int .i64 v.gh, .int .i64 v.ol, .int .i64 v.oh, .int .i64 v.tl, .int .i64 v.th, .int .i64 v.c] from rfl]
  obtain ⟨W1, hW1⟩ : ∃ W1, (((w.alloc (.cells #[.slice y.aT y.nT y.cT, .slice y.aR y.nR y.cR, .int .i64 y.sl, .int .i64 y.sh, .int .i64 y.gl, .int .i64 y.gh, .int .i64 y.hl, .int .i64 y.hh] 32)).alloc (.cells #[.int .i64 v.sl, .int .i64 v.sh, .int .i64 v.el, .int .i64 v.eh, .int .i64 v.pl, .int .i64 v.ph, .int .i64 v.gl, .int .i64 v.gh, .int .i64 v.ol, .int .i64 v.oh, .int .i64 v.tl, .int .i64 v.th, .int .i64 v.c] 53)).alloc (.cells #[.slice none 0 0] 54)).alloc (.cells #[.int .i64 0] 44) = W1 := ⟨_, rfl⟩
  have hBc : Below w.heap.size w W1 := by rw [← hW1]; exact (((below_alloc _ _).alloc (by simp) _).alloc (by simp <;> omega) _).alloc (by simp <;> omega) _
  have zc0 : W1.heap[w.heap.size]? = some (.cells #[.slice y.aT y.nT y.cT, .slice y.aR y.nR y.cR, .int .i64 y.sl, .int .i64 y.sh, .int .i64 y.gl, .int .i64 y.gh, .int .i64 y.hl, .int .i64 y.hh] 32 (0, 0)) := by rw [← hW1]; exact alloc_keep (alloc_keep (alloc_keep (alloc_at rfl)))
  have zc1 : W1.heap[w.heap.size + 1]? = some (.cells #[.int .i64 v.sl, .int .i64 v.sh, .int .i64 v.el, .int .i64 v.eh, .int .i64 v.pl, .int .i64 v.ph, .int .i64 v.gl, .int .i64 v.gh, .int .i64 v.ol, .int .i64 v.oh, .int .i64 v.tl, .int .i64 v.th, .int .i64 v.c] 53 (0, 0)) := by rw [← hW1]; exact alloc_keep (alloc_keep (alloc_at (by simp)))
  have zc2 : W1.heap[w.heap.size + 1 + 1]? = some (.cells #[.slice none 0 0] 54 (0, 0)) := by rw [← hW1]; exact alloc_keep (alloc_at (by simp <;> omega))
  have zc3 : W1.heap[w.heap.size + 1 + 1 + 1]? = some (.cells #[.int .i64 0] 44 (0, 0)) := by rw [← hW1]; exact alloc_at (by simp <;> omega)
  have c00 : W1.cell? ⟨w.heap.size, 0, none⟩ = some (.slice y.aT y.nT y.cT) := cell_of_block zc0 0 (by simp)
  have c01 : W1.cell? ⟨w.heap.size, 1, none⟩ = some (.slice y.aR y.nR y.cR) := cell_of_block zc0 1 (by simp)
  have c02 : W1.cell? ⟨w.heap.size, 2, none⟩ = some (.int .i64 y.sl) := cell_of_block zc0 2 (by simp)
  have c03 : W1.cell? ⟨w.heap.size, 3, none⟩ = some (.int .i64 y.sh) := cell_of_block zc0 3 (by simp)
  have c04 : W1.cell? ⟨w.heap.size, 4, none⟩ = some (.int .i64 y.gl) := cell_of_block zc0 4 (by simp)
  have c05 : W1.cell? ⟨w.heap.size, 5, none⟩ = some (.int .i64 y.gh) := cell_of_block zc0 5 (by simp)
  have c06 : W1.cell? ⟨w.heap.size, 6, none⟩ = some (.int .i64 y.hl) := cell_of_block zc0 6 (by simp)
  have c07 : W1.cell? ⟨w.heap.size, 7, none⟩ = some (.int .i64 y.hh) := cell_of_block zc0 7 (by simp)
  have c10 : W1.cell? ⟨w.heap.size + 1, 0, none⟩ = some (.int .i64 v.sl) := cell_of_block zc1 0 (by simp)
  have c11 : W1.cell? ⟨w.heap.size + 1, 1, none⟩ = some (.int .i64 v.sh) := cell_of_block zc1 1 (by simp)
  have c12 : W1.cell? ⟨w.heap.size + 1, 2, none⟩ = some (.int .i64 v.el) := cell_of_block zc1 2 (by simp)
  have c13 : W1.cell? ⟨w.heap.size + 1, 3, none⟩ = some (.int .i64 v.eh) := cell_of_block zc1 3 (by simp)
  have c14 : W1.cell? ⟨w.heap.size + 1, 4, none⟩ = some (.int .i64 v.pl) := cell_of_block zc1 4 (by simp)
  have c15 : W1.cell? ⟨w.heap.size + 1, 5, none⟩ = some (.int .i64 v.ph) := cell_of_block zc1 5 (by simp)
  have c16 : W1.cell? ⟨w.heap.size + 1, 6, none⟩ = some (.int .i64 v.gl) := cell_of_block zc1 6 (by simp)
  have c17 : W1.cell? ⟨w.heap.size + 1, 7, none⟩ = some (.int .i64 v.gh) := cell_of_block zc1 7 (by simp)
  have c18 : W1.cell? ⟨w.heap.size + 1, 8, none⟩ = some (.int .i64 v.ol) := cell_of_block zc1 8 (by simp)
  have c19 : W1.cell? ⟨w.heap.size + 1, 9, none⟩ = some (.int .i64 v.oh) := cell_of_block zc1 9 (by simp)
  have c110 : W1.cell? ⟨w.heap.size + 1, 10, none⟩ = some (.int .i64 v.tl) := cell_of_block zc1 10 (by simp)
  have c111 : W1.cell? ⟨w.heap.size + 1, 11, none⟩ = some (.int .i64 v.th) := cell_of_block zc1 11 (by simp)
  have c112 : W1.cell? ⟨w.heap.size + 1, 12, none⟩ = some (.int .i64 v.c) := cell_of_block zc1 12 (by simp)
  have c20 : W1.cell? ⟨w.heap.size + 1 + 1, 0, none⟩ = some (.slice none 0 0) := cell_of_block zc2 0 (by simp)
  have c30 : W1.cell? ⟨w.heap.size + 1 + 1 + 1, 0, none⟩ = some (.int .i64 0) := cell_of_block zc3 0 (by simp)
  have lc0 := (Array.getElem?_eq_some_iff.1 zc0).1
  have lc1 := (Array.getElem?_eq_some_iff.1 zc1).1
  have lc2 := (Array.getElem?_eq_some_iff.1 zc2).1
  have lc3 := (Array.getElem?_eq_some_iff.1 zc3).1
  have Zc0 := Lib.hid zc0
  have Zc1 := Lib.hid zc1
  have Zc2 := Lib.hid zc2
  have Zc3 := Lib.hid zc3
  clear zc0 zc1 zc2 zc3
  have HBc := Lib.hid hBc; clear hBc
  have HWc := Lib.hid hW1; clear hW1
  have IY := Lib.hid (isYeast_b y W1 (hI.below HBc.out) hf hB)
  have IV := Lib.hid (fun W => isVat_b v W hv)
  have IC := fun W (hb : Below w.heap.size w W) => areCoolings_any aC k cC F G W (by omega) (hC.below hb)
  rw [hCC] at IC
  have IC' := Lib.hid IC; clear IC
  have HI := Lib.hid hI; clear hI
  have HF := Lib.hid hf; clear hf
  have HBB := Lib.hid hB; clear hB
  have HVV := Lib.hid hv; clear hv
  have HC := Lib.hid hC; clear hC
  have HCB := Lib.hid hCB; clear hCB hCC
  have HGO := Lib.hid hgo; clear hgo
  have HST := Lib.hid hst; clear hst
  refine callsIn_of_wp_marks Try.func11 rfl trivial ?_ rfl
  simp only [Try.ntmps11, List.size_toArray, List.length_cons, List.length_nil, Nat.reduceAdd, Nat.reduceSub, Array.replicate_succ, Array.replicate_zero, List.push_toArray, List.append_toArray, List.nil_append, List.cons_append]
  gi_wp2_with fail
  rw [HWc.out]
  have IYx := IY.out
  unfold Yst.val at IYx
  have IYY := Lib.hid IYx; clear IYx
  unfold Vat.val at IV
  refine ⟨trivial, (fun h => (by cases h)), ?_⟩
  refine (callsIn_wide.2 (Calls.grown IYY.out)).mono ?_
  rintro e w2 ⟨rfl, z1, rfl⟩
  gi_wp2_with fail
  refine ⟨trivial, (fun h => (by cases h)), ?_⟩
  refine (callsIn_wide.2 (Calls.gw_of (IV.out _))).mono ?_
  rintro e w2 ⟨rfl, z2, rfl⟩
  gi_wp2_with fail
  refine ⟨trivial, (fun h => (by cases h)), ?_⟩
  refine (callsIn_wide.2 (Calls.gw_of (IC'.out _ (HBc.out.gw z2)))).mono ?_
  rintro e w2 ⟨rfl, z3, rfl⟩
  gi_wp2_with fail
  have sc1 := HBc.out.size
  have sc2 := (Array.getElem?_eq_some_iff.1 Zc3.out).1
  obtain ⟨w1, hw1⟩ : ∃ w1, gw W1 z3 = w1 := ⟨_, rfl⟩
  have B1 := Lib.hid (show Below W1.heap.size W1 w1 by rw [← hw1]; exact below_gw W1 z3)
  rw [hw1]
  clear hw1 c00 c01 c02 c03 c04 c05 c06 c07 c10 c11 c12 c13 c14 c15 c16 c17 c18 c19 c110 c111 c112 c20 c30
  have hb1 : Below w.heap.size w w1 := thru B1.out HBc.out
  have Y1 := Lib.hid ((B1.out.block _ (Array.getElem?_eq_some_iff.1 Zc0.out).1).trans Zc0.out)
  have Y3 := Lib.hid ((B1.out.block _ (Array.getElem?_eq_some_iff.1 Zc2.out).1).trans Zc2.out)
  have Y5 := Lib.hid ((B1.out.block _ (Array.getElem?_eq_some_iff.1 Zc3.out).1).trans Zc3.out)
  have hs1 : w.heap.size + 4 ≤ w1.heap.size := by have := B1.out.size; omega
  have HB := Lib.hid hb1
  have RA := run_any w.heap.size v aC k cC w1
  unfold Vat.val Vat.cells at RA
  have RAH := Lib.hid RA; clear RA
  refine ⟨trivial, (fun h => (by cases h)), ?_⟩
  refine (callsIn_wide.2 RAH.out).mono ?_
  rintro e w2 ⟨rfl, rfl⟩
  gi_wp2_with fail
  obtain ⟨W0, hW0⟩ : ∃ W0, ((w1.alloc (.cells #[.pointer (some ⟨w.heap.size, 0, none⟩)] 97)).alloc (.cells #[.int .i64 v.sl, .int .i64 v.sh, .int .i64 v.el, .int .i64 v.eh, .int .i64 v.pl, .int .i64 v.ph, .int .i64 v.gl, .int .i64 v.gh, .int .i64 v.ol, .int .i64 v.oh, .int .i64 v.tl, .int .i64 v.th, .int .i64 v.c] 53)).alloc (.cells #[.slice aC k cC] 30) = W0 := ⟨_, rfl⟩
  have hB0 : Below w1.heap.size w1 W0 := by rw [← hW0]; exact ((below_alloc _ _).alloc (by simp) _).alloc (by simp; omega) _
  have hsz : W0.heap.size = w1.heap.size + 3 := by rw [← hW0]; simp
  have hp0 : W0.heap[w1.heap.size]? = some (.cells #[.pointer (some ⟨w.heap.size, 0, none⟩)] 97 (0, 0)) := by rw [← hW0]; exact alloc_keep (alloc_keep (alloc_at rfl))
  have hv0 : W0.heap[w1.heap.size + 1]? = some (.cells #[.int .i64 v.sl, .int .i64 v.sh, .int .i64 v.el, .int .i64 v.eh, .int .i64 v.pl, .int .i64 v.ph, .int .i64 v.gl, .int .i64 v.gh, .int .i64 v.ol, .int .i64 v.oh, .int .i64 v.tl, .int .i64 v.th, .int .i64 v.c] 53 (0, 0)) := by rw [← hW0]; exact alloc_keep (alloc_at (by simp))
  have hc0 : W0.heap[w1.heap.size + 1 + 1]? = some (.cells #[.slice aC k cC] 30 (0, 0)) := by rw [← hW0]; exact alloc_at (by simp)
  rw [hW0]
  clear hW0
  have hlow : Below w.heap.size w W0 := thru hB0 hb1
  have X1 := (hB0.block _ (Array.getElem?_eq_some_iff.1 Y1.out).1).trans Y1.out
  have X3 := (hB0.block _ (Array.getElem?_eq_some_iff.1 Y3.out).1).trans Y3.out
  have X5 := (hB0.block _ (Array.getElem?_eq_some_iff.1 Y5.out).1).trans Y5.out
  clear hB0 hb1
  refine wpIn_rangeFunc_J (gf := 50) (lb := #[.pointer (some ⟨w1.heap.size + 1 + 1, 0, none⟩), .pointer (some ⟨w1.heap.size, 0, none⟩), .pointer (some ⟨w1.heap.size + 1, 0, none⟩)]) rfl (enters_of Try.func50 (by kernel_rfl) rfl)
    (fun rec e W => VEnds k m (Btw y v F G w W0.heap.size rec) e W) ?call ?ret ?pan ?out
  case out => rintro rec W (⟨_, ⟨_, h⟩, _⟩ | ⟨_, h, _⟩) <;> cases h
  case call =>
    intro rec r1 r2 r3 r4 r5 r6
    obtain ⟨W1', hW1'⟩ : ∃ W1', (W0.alloc (.deferred (some []))).alloc (.loop rec) = W1' := ⟨_, rfl⟩
    have hB1 : Below W0.heap.size W0 W1' := by rw [← hW1']; exact (below_alloc _ _).alloc (by simp) _
    have hl1 : W1'.heap[W0.heap.size + 1]? = some (.loop rec) := by rw [← hW1']; exact alloc_at (by simp)
    have hd1 : W1'.heap[W0.heap.size]? = some (.deferred (some [])) := by rw [← hW1']; exact alloc_keep (alloc_at rfl)
    rw [hW1']
    clear hW1'
    have same : ∀ (B : Nat) (o : Obj), W0.heap[B]? = some o → W1'.heap[B]? = some o := fun B o ho => (hB1.block B (Array.getElem?_eq_some_iff.1 ho).1).trans ho
    have hlow1 : Below w.heap.size w W1' := thru hB1 hlow
    refine run1_in (n - 1) (W0.heap.size + 1) aC k cC F G y v w.heap.size w1.heap.size (w1.heap.size + 1) (w1.heap.size + 1 + 1) m w HI.out HF.out HBB.out HVV.out HC.out HCB.out hk hmk HGO.out HST.out ?ne (by omega) _ ?abide ?low ?round W1' ⟨same _ _ X1, same _ _ hp0, same _ _ hv0, same _ _ hc0⟩ ?start
    case ne => refine ⟨?_, ?_, ?_⟩ <;> omega
    case abide => exact fun j V V' hb hg => hb.kept hg (by omega) (by omega)
    case low => exact fun j V hb => hb.low
    case start => exact ⟨⟨.slice none 0 0, same _ _ X3, World.ownsRow_nil _ _ _ _⟩, same _ _ X5, hl1, hd1, hlow1⟩
    case round =>
      intro j W hb hjm hRd
      refine yieldAt_J hb.loop r1 r3 r4 r5 r6 rfl ?_
      obtain ⟨vl, hbx, hrow⟩ := hb.row
      have bc0 := hbx.cell
      have Hhb := Lib.hid hb
      have Hrow := Lib.hid hrow
      have Hbx := Lib.hid hbx
      clear hb hrow hbx hRd r3 r4 r5 r6
      obtain ⟨vn, hvn⟩ : ∃ vn, y.vs v F G (j + 1) = vn := ⟨_, rfl⟩
      rw [hvn]
      unfold Vat.val
      gi_wp2_with fail
      refine ⟨(Below.heap_alloc _ _ _ (Array.getElem?_eq_some_iff.1 Hhb.out.loop).1).trans Hhb.out.loop, ?_⟩
      obtain ⟨i0, hi, hz0, hz1, hz2⟩ := info_parts infoVat
      have hlp := (Array.getElem?_eq_some_iff.1 Hhb.out.loop).1
      obtain ⟨Wb, hWb⟩ : ∃ Wb, (W.alloc (.cells #[.int .i64 vn.sl, .int .i64 vn.sh, .int .i64 vn.el, .int .i64 vn.eh, .int .i64 vn.pl, .int .i64 vn.ph, .int .i64 vn.gl, .int .i64 vn.gh, .int .i64 vn.ol, .int .i64 vn.oh, .int .i64 vn.tl, .int .i64 vn.th, .int .i64 vn.c] 53)).putObj (W0.heap.size + 1) (.loop { rec with state := .busy }) = Wb := ⟨_, rfl⟩
      have hg1 : W.grownBy Wb (some (W0.heap.size + 1)) := by rw [← hWb]; exact grownBy_trans (World.grownBy_alloc W _ _) (grownBy_putObj' _ _ _)
      have hzb : Wb.heap.size = W.heap.size + 1 := by rw [← hWb]; simp
      have hdb : Wb.heap[W.heap.size]? = some (.cells #[.int .i64 vn.sl, .int .i64 vn.sh, .int .i64 vn.el, .int .i64 vn.eh, .int .i64 vn.pl, .int .i64 vn.ph, .int .i64 vn.gl, .int .i64 vn.gh, .int .i64 vn.ol, .int .i64 vn.oh, .int .i64 vn.tl, .int .i64 vn.th, .int .i64 vn.c] 53 (0, 0)) := by
        rw [← hWb]; exact (World.putObj_heap_other (by omega)).trans (World.alloc_heap_new W _)
      have hlb : Wb.heap[W0.heap.size + 1]? = some (.loop { rec with state := .busy }) := by
        rw [← hWb]; exact World.putObj_heap_same (by simp; omega)
      rw [hWb]
      clear hWb
      have hl2 : Boxed Wb (w.heap.size + 1 + 1) 54 vl := Hbx.out.kept hg1 (by simp; omega)
      have hr2 : Wb.ownsRow W0.heap.size 53 13 vl j (y.outs v F G j) := Hrow.out.kept hg1 (.inr (Ne.symm (far_row Hrow.out Hhb.out.loop (fun _ h => by cases h))))
      have d0 : Wb.cell? ⟨W.heap.size, 0, none⟩ = some (.int .i64 vn.sl) := cell_of_block hdb 0 (by simp)
      have d1 : Wb.cell? ⟨W.heap.size, 1, none⟩ = some (.int .i64 vn.sh) := cell_of_block hdb 1 (by simp)
      have d2 : Wb.cell? ⟨W.heap.size, 2, none⟩ = some (.int .i64 vn.el) := cell_of_block hdb 2 (by simp)
      have d3 : Wb.cell? ⟨W.heap.size, 3, none⟩ = some (.int .i64 vn.eh) := cell_of_block hdb 3 (by simp)
      have d4 : Wb.cell? ⟨W.heap.size, 4, none⟩ = some (.int .i64 vn.pl) := cell_of_block hdb 4 (by simp)
      have d5 : Wb.cell? ⟨W.heap.size, 5, none⟩ = some (.int .i64 vn.ph) := cell_of_block hdb 5 (by simp)
      have d6 : Wb.cell? ⟨W.heap.size, 6, none⟩ = some (.int .i64 vn.gl) := cell_of_block hdb 6 (by simp)
      have d7 : Wb.cell? ⟨W.heap.size, 7, none⟩ = some (.int .i64 vn.gh) := cell_of_block hdb 7 (by simp)
      have d8 : Wb.cell? ⟨W.heap.size, 8, none⟩ = some (.int .i64 vn.ol) := cell_of_block hdb 8 (by simp)
      have d9 : Wb.cell? ⟨W.heap.size, 9, none⟩ = some (.int .i64 vn.oh) := cell_of_block hdb 9 (by simp)
      have d10 : Wb.cell? ⟨W.heap.size, 10, none⟩ = some (.int .i64 vn.tl) := cell_of_block hdb 10 (by simp)
      have d11 : Wb.cell? ⟨W.heap.size, 11, none⟩ = some (.int .i64 vn.th) := cell_of_block hdb 11 (by simp)
      have d12 : Wb.cell? ⟨W.heap.size, 12, none⟩ = some (.int .i64 vn.c) := cell_of_block hdb 12 (by simp)
      have l0 := hl2.cell
      have Hsz := Lib.hid hsz
      have Hzb := Lib.hid hzb
      have hle : W.heap.size + 1 ≤ Wb.heap.size := by omega
      have hDw : W0.heap.size ≤ Wb.heap.size := by omega
      clear bc0 hsz hzb X1 X3 X5 hp0 hv0 hc0 hlow hlow1 hB1 same hl1 hd1
      gi_wp2_with (gi_at_builtin; refine wpListIn_append_own _ rfl _ _ 54 rfl W0.heap.size 53 i0 (.agg #[.int .i64 0, .int .i64 0, .int .i64 0, .int .i64 0, .int .i64 0, .int .i64 0, .int .i64 0, .int .i64 0, .int .i64 0, .int .i64 0, .int .i64 0, .int .i64 0, .int .i64 0]) 13 104 Try.underlying54 hi hz0 hz1 hz2 rfl (by decide) _ _ _ rfl (hr2.alloc _) ⟨Wb.heap.size, 0, none⟩ 1 1 [.int .i64 vn.sl, .int .i64 vn.sh, .int .i64 vn.el, .int .i64 vn.eh, .int .i64 vn.pl, .int .i64 vn.ph, .int .i64 vn.gl, .int .i64 vn.gh, .int .i64 vn.ol, .int .i64 vn.oh, .int .i64 vn.tl, .int .i64 vn.th, .int .i64 vn.c] rfl rfl (news_lit _ _ _) (by simp [Value.oneCell']) (by unfold maxLen; omega) (by omega) (by simp; omega) ?_; intro v' w3 hown' hgrow _; obtain ⟨g', cap', rfl⟩ := ownsRow_succ hown'; have hv1 := (hl2.alloc _).kept hgrow (hl2.not_row (by decide) hr2); have hc1 := hv1.cell; have hf1 := hv1.frozen)
      obtain ⟨e1, e2, e3⟩ := round_done (b1 := w.heap.size) (b2 := w1.heap.size) (b3 := w1.heap.size + 1) (b4 := w1.heap.size + 1 + 1) (by have := Hsz.out; omega) Hhb.out Hrow.out hg1 hlb hgrow hv1 (by rw [hvn]; exact hown') (by have := Hsz.out; omega) (by have := Hsz.out; omega) (by have := Hsz.out; omega) (by have := Hsz.out; omega)
      have er : ({ ({ rec with state := .busy } : Loop) with state := .ready, pending := none } : Loop) = rec := by cases rec; simp_all
      refine ⟨_, _, run_endRound none e1, rfl, ?_⟩
      simp only [Option.isNone_none, if_true]
      rw [er]
      exact ⟨e2, e3⟩
  case ret =>
    rintro rec v9 W r1 r2 (⟨hmk2, _, hb⟩ | ⟨_, h, _⟩)
    · refine ⟨hb.loop, ?_⟩
      obtain ⟨vl, hbx, hrow⟩ := hb.row
      have hD := (Array.getElem?_eq_some_iff.1 hb.loop).1
      obtain ⟨av, cv, rfl⟩ := own_form hrow
      obtain ⟨W5, hW5⟩ : ∃ W5, W.putObj (W0.heap.size + 1) (.loop { rec with state := .exhausted }) = W5 := ⟨_, rfl⟩
      have hg5 : W.grownBy W5 (some (W0.heap.size + 1)) := by rw [← hW5]; exact grownBy_putObj' _ _ _
      have hr5 : W5.ownsRow W0.heap.size 53 13 (.slice av k cv) k (y.outs v F G k) := hrow.kept hg5 (.inr (Ne.symm (far_row hrow hb.loop (fun _ h => by cases h))))
      have same : ∀ (B : Nat) (o : Obj), W.heap[B]? = some o → B ≠ W0.heap.size + 1 → W5.heap[B]? = some o := fun B o ho hB => (hg5.block B (Array.getElem?_eq_some_iff.1 ho).1 (by simpa using hB)).trans ho
      rw [hW5]
      clear hW5
      have k2 : W5.heap[w.heap.size + 1 + 1]? = some (.cells #[.slice av k cv] 54 (0, 0)) := same _ _ hbx (by omega)
      have k4 : W5.heap[w.heap.size + 1 + 1 + 1]? = some (.cells #[.int .i64 0] 44 (0, 0)) := same _ _ hb.err (by omega)
      have kd := same _ _ hb.dfr (by omega)
      have l0 := cell_of_block k2 0 (by simp)
      have f0 := frozen_of_block k2 0
      have e0 := cell_of_block k4 0 (by simp)
      have f4 := frozen_of_block k4 0
      simp at l0 e0
      have l2 := (Array.getElem?_eq_some_iff.1 k2).1
      have l4 := (Array.getElem?_eq_some_iff.1 k4).1
      have Hlow := Lib.hid hb.low
      have K2 := Lib.hid k2
      have K4 := Lib.hid k4
      have KD := Lib.hid kd
      have HR5 := Lib.hid hr5
      have Hg5 := Lib.hid hg5
      have Hsz := Lib.hid hsz
      clear hb hbx hrow same hsz X1 X3 X5 hp0 hv0 hc0 hlow k2 k4 kd hr5 hg5
      gi_wp2_with fail
      obtain ⟨X, hX⟩ : ∃ X, (W5.setCell ⟨w.heap.size + 1 + 1, 0, none⟩ (.slice av k cv)).setCell ⟨w.heap.size + 1 + 1 + 1, 0, none⟩ (.int .i64 0) = X := ⟨_, rfl⟩
      obtain ⟨oth, x2, x4, xlow⟩ := two_stores (N := w.heap.size) (by omega) (by omega) (by omega) K2.out K4.out hX
      rw [hX]
      clear hX
      have hsz := Hsz.out
      have xd := (oth W0.heap.size (by omega) (by omega)).trans KD.out
      have y4 := (World.putObj_heap_other (o := .deferred none) (show w.heap.size + 1 + 1 + 1 ≠ W0.heap.size by omega)).trans x4
      unfold bodyPostM
      refine ⟨by simp, .inl ⟨W0.heap.size, _, rfl, run_takeDeferred xd, ?_⟩⟩
      refine ⟨by simp, .inr ⟨(fun h => (by cases h)), Fn.func 32, _, 32, #[.pointer (some ⟨w.heap.size + 1 + 1 + 1, 0, none⟩), .pointer (some ⟨w.heap.size + 1 + 1, 0, none⟩)], rfl, by simp [invoke, go_sem, enters_of Try.func32 (by kernel_rfl) rfl], fun _ _ => trivial, ?_⟩⟩
      refine (defer_idle _ (w.heap.size + 1 + 1 + 1) (w.heap.size + 1 + 1) _ (cell_of_block y4 0 (by simp)) (frozen_of_block y4 0)).mono ?_
      rintro e u' Z ⟨rfl, rfl, hZ⟩
      obtain ⟨zo, z4', zlow⟩ := leave_world (N := w.heap.size) (by omega) (by omega) (by omega) x4 hZ
      clear hZ
      have zz2 := (zo (w.heap.size + 1 + 1) (by omega) (by omega)).trans x2
      have b0 := cell_of_block zz2 0 (by simp)
      have b4 := cell_of_block z4' 0 (by simp)
      simp at b0 b4
      refine ⟨.tuple #[.slice av k cv, .int .i64 0], by simp [results, Try.results11, go_sem, b0, b4], ?_⟩
      have low5 : Below w.heap.size w W5 := Hlow.out.grown Hg5.out Hlow.out.size (fun k e => by cases e; omega)
      refine ⟨(low5.trans xlow).trans zlow, .inl ⟨hmk2, _, rfl, (ownsRow_same HR5.out fun g hg => ?_).base (by omega)⟩⟩
      have g2 : g ≠ w.heap.size + 1 + 1 := fun e => row_low HR5.out (B := g) (by omega) hg
      have g3 : g ≠ w.heap.size + 1 + 1 + 1 := fun e => row_low HR5.out (B := g) (by omega) hg
      have gd : g ≠ W0.heap.size := fun e => far_row HR5.out KD.out (fun _ e => by cases e) (e ▸ hg)
      exact (zo g gd g3).trans (oth g g2 g3)
    · cases h
  case pan =>
    rintro rec chain W (⟨_, ⟨_, h⟩, _⟩ | ⟨hlt, h, hb⟩)
    · cases h
    · cases h
      obtain ⟨vl, hbx, hrow⟩ := hb.row
      have hD := (Array.getElem?_eq_some_iff.1 hb.loop).1
      refine ⟨by simp, .inl ⟨W0.heap.size, _, rfl, run_takeDeferred hb.dfr, ?_⟩⟩
      have y2 := (World.putObj_heap_other (o := .deferred none) (show w.heap.size + 1 + 1 ≠ W0.heap.size by omega)).trans hbx
      have y4 := (World.putObj_heap_other (o := .deferred none) (show w.heap.size + 1 + 1 + 1 ≠ W0.heap.size by omega)).trans hb.err
      refine ⟨by simp, .inr ⟨(fun h => (by cases h)), Fn.func 32, _, 32, #[.pointer (some ⟨w.heap.size + 1 + 1 + 1, 0, none⟩), .pointer (some ⟨w.heap.size + 1 + 1, 0, none⟩)], rfl, by simp [invoke, go_sem, enters_of Try.func32 (by kernel_rfl) rfl], fun _ _ => trivial, ?_⟩⟩
      refine (defer_caught _ (w.heap.size + 1 + 1 + 1) (w.heap.size + 1 + 1) 0 vl [] _ (cell_of_block y4 0 (by simp)) (frozen_of_block y4 0) (cell_of_block y2 0 (by simp)) (frozen_of_block y2 0) (by omega)).mono ?_
      rintro e u' Z ⟨rfl, rfl, w9, hb9, hZ⟩
      have lowY : Below w.heap.size w (W.putObj W0.heap.size (.deferred none)) := hb.low.grown (grownBy_putObj' _ _ _) hb.low.size (fun k e => by cases e; omega)
      have v2 := (hb9.block _ (Array.getElem?_eq_some_iff.1 y2).1).trans y2
      have v4 := (hb9.block _ (Array.getElem?_eq_some_iff.1 y4).1).trans y4
      have far : ∀ (W : World) (b k : Nat) (v : Value) (B : Nat), B ≠ b → (W.setCell ⟨b, k, none⟩ v).heap[B]? = W.heap[B]? := fun W b k v B h => Below.heap_setCell W ⟨b, k, none⟩ v B h
      have zz2 : Z.heap[w.heap.size + 1 + 1]? = some (.cells #[.slice none 0 0] 54 (0, 0)) := by
        rw [hZ]; exact block_set 0 _ ((far _ _ _ _ _ (by omega)).trans v2)
      have zz4 : Z.heap[w.heap.size + 1 + 1 + 1]? = some (.cells #[.int .i64 12] 44 (0, 0)) := by
        rw [hZ]; exact (far _ _ _ _ _ (by omega)).trans (block_set 0 _ v4)
      have lowZ : Below w.heap.size w Z := by
        rw [hZ]; exact ((lowY.trans (hb9.mono lowY.size)).setCell (p := ⟨w.heap.size + 1 + 1 + 1, 0, none⟩) (by simp; omega) _).setCell (p := ⟨w.heap.size + 1 + 1, 0, none⟩) (by simp; omega) _
      clear hZ hb9 v2 v4 y2 y4
      have b0 := cell_of_block zz2 0 (by simp)
      have b4 := cell_of_block zz4 0 (by simp)
      simp at b0 b4
      exact ⟨.tuple #[.slice none 0 0, .int .i64 12], by simp [results, Try.results11, go_sem, b0, b4], lowZ, .inr ⟨hlt, rfl⟩⟩
end Go.Proofs.Ytfefmgadfklgmaa
