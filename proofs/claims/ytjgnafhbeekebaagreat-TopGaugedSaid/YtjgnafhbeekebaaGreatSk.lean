/- Contract of ends. No conditions beyond each theorem's own. -/
import Derived.Test.YtjgnafhbeekebaaGreatLe
import Derived.Sort.CutIn
set_option linter.unusedVariables false
set_option linter.unusedSimpArgs false
set_option linter.unusedSectionVars false
set_option linter.constructorNameAsVariable false
namespace Go.Proofs.YtjgnafhbeekebaaGreat.L1
open Go.RowKit
open Go.Shelf
open Go.Proofs.YtjgnafhbeekebaaGreat

theorem none_fn (p : FuncId → Prop) : (∀ f, (none : Option FuncId) = some f → p f) ↔ True := ⟨fun _ => trivial, fun _ f h => by cases h⟩
attribute [local go_sem] gw_cell gw_frozen gw_size Oper.semAt_some none_fn

/-- the value at the p-th corner -/
def Tab.cf (t : Tab) (m : Rows) (slo shi tlo thi : Int) : Nat → Fr := cornF t.T t.S t.nT t.nS m.M (marksP t.T t.nT tlo thi) (marksP t.S t.nS slo shi)
def Tab.nc (t : Tab) (slo shi tlo thi : Int) : Nat := (marksP t.T t.nT tlo thi).length * (marksP t.S t.nS slo shi).length
def Tab.low (t : Tab) (m : Rows) (slo shi tlo thi : Int) : Fr := lowP t.T t.S t.nT t.nS m.M tlo thi slo shi
def Tab.high (t : Tab) (m : Rows) (slo shi tlo thi : Int) : Fr := highP t.T t.S t.nT t.nS m.M tlo thi slo shi
theorem Tab.Good.fit {t : Tab} {m : Rows} {w : World} (g : t.Good) (hM : t.Rowed m w) {x y : Int} (ft : t.tb.FitT x x) (fs : t.tb.FitS y y) : (t.valM m x y).Fit := by
  have t2 := g.ok.t2
  have s2 := g.ok.s2
  simp only [Tab.tb] at t2 s2
  obtain ⟨r1, r2⟩ := val_range (M := m.M) (x := x) (y := y) (c1 := -1100000) (c2 := 1100000) g.ok.rT g.ok.rS g.ok.t2 g.ok.s2 ft.a ft.c fs.a fs.c hM.b
  have hp := plV_le t.T t.nT x
  have hq := plV_le t.S t.nS y
  have a0 := g.ok.bT (plV t.T t.nT x) (by simp only [Tab.tb]; omega)
  have a1 := g.ok.bT (plV t.T t.nT x + 1) (by simp only [Tab.tb]; omega)
  have b0 := g.ok.bS (plV t.S t.nS y) (by simp only [Tab.tb]; omega)
  have b1 := g.ok.bS (plV t.S t.nS y + 1) (by simp only [Tab.tb]; omega)
  have ra := g.ok.rT (plV t.T t.nT x) (by simp only [Tab.tb]; omega)
  have rb := g.ok.rS (plV t.S t.nS y) (by simp only [Tab.tb]; omega)
  simp only [Tab.tb] at a0 a1 b0 b1 ra rb r1 r2
  have hd : (t.valM m x y).d = (t.T (plV t.T t.nT x + 1) - t.T (plV t.T t.nT x)) * (t.S (plV t.S t.nS y + 1) - t.S (plV t.S t.nS y)) := rfl
  have d1 := mul_pos1 (show 1 ≤ t.T (plV t.T t.nT x + 1) - t.T (plV t.T t.nT x) by omega) (show 1 ≤ t.S (plV t.S t.nS y + 1) - t.S (plV t.S t.nS y) by omega)
  have d2 := Int.mul_le_mul (show t.T (plV t.T t.nT x + 1) - t.T (plV t.T t.nT x) ≤ 1500 by omega) (show t.S (plV t.S t.nS y + 1) - t.S (plV t.S t.nS y) ≤ 10000 by omega) (by omega) (by omega)
  rw [← hd] at d1 d2
  unfold leF ofI at r1 r2
  simp only [Int.mul_one] at r1 r2
  have e : valF t.T t.S t.nT t.nS m.M x y = t.valM m x y := rfl
  rw [e] at r1 r2
  exact ⟨d1, by omega, by omega, by omega⟩
theorem marks_fitT {t : Tab} {tlo thi : Int} (ft : t.tb.FitT tlo thi) {i : Nat} (hi : i < (marksP t.T t.nT tlo thi).length) : t.tb.FitT ((marksP t.T t.nT tlo thi).getD i 0) ((marksP t.T t.nT tlo thi).getD i 0) := by
  have := mark_in ft.b (mem_marksP.1 (getD_mem hi))
  have a := ft.a
  have c := ft.c
  exact ⟨by omega, Int.le_refl _, by omega⟩
theorem marks_fitS {t : Tab} {slo shi : Int} (fs : t.tb.FitS slo shi) {i : Nat} (hi : i < (marksP t.S t.nS slo shi).length) : t.tb.FitS ((marksP t.S t.nS slo shi).getD i 0) ((marksP t.S t.nS slo shi).getD i 0) := by
  have := mark_in fs.b (mem_marksP.1 (getD_mem hi))
  have a := fs.a
  have c := fs.c
  exact ⟨by omega, Int.le_refl _, by omega⟩
theorem cf_fit {t : Tab} {m : Rows} {w : World} (g : t.Good) (hM : t.Rowed m w) {slo shi tlo thi : Int} (ft : t.tb.FitT tlo thi) (fs : t.tb.FitS slo shi) {p : Nat} (hp : p < t.nc slo shi tlo thi) : (t.cf m slo shi tlo thi p).Fit :=
  g.fit hM (marks_fitT ft (corn_div hp).1) (marks_fitS fs (corn_div hp).2)
theorem lowN_fit {f : Nat → Fr} {n : Nat} (h : ∀ j, j < n → (f j).Fit) : ∀ p, p ≤ n → (lowN f p).d = 0 ∧ p = 0 ∨ 1 ≤ p ∧ (lowN f p).Fit
  | 0, _ => .inl ⟨rfl, rfl⟩
  | p + 1, hp => by
    obtain ⟨⟨j, hj, e⟩, _⟩ := lowN_spec (f := f) (p + 1) (fun j hj => (h j (by omega)).d1) (by omega)
    exact .inr ⟨by omega, e ▸ h j (by omega)⟩
theorem highN_fit {f : Nat → Fr} {n : Nat} (h : ∀ j, j < n → (f j).Fit) : ∀ p, p ≤ n → (highN f p).d = 0 ∧ p = 0 ∨ 1 ≤ p ∧ (highN f p).Fit
  | 0, _ => .inl ⟨rfl, rfl⟩
  | p + 1, hp => by
    obtain ⟨⟨j, hj, e⟩, _⟩ := highN_spec (f := f) (p + 1) (fun j hj => (h j (by omega)).d1) (by omega)
    exact .inr ⟨by omega, e ▸ h j (by omega)⟩
/-- a round has been: its record is as it was -/
theorem keep_round {x y l : Nat} {V W3 : World} {rec rb : Loop} (hl : V.heap[l]? = some (.loop rec)) (h : Keep2 x y (V.putObj l (.loop rb)) W3) : Keep2 x y V (W3.putObj l (.loop rec)) := by
  have hlt := (Array.getElem?_eq_some_iff.1 hl).1
  have z := h.size
  have z' : (V.putObj l (.loop rb)).heap.size = V.heap.size := by simp [World.putObj]
  refine ⟨h.os, h.tape, h.output, by show _ ≤ (W3.heap.setIfInBounds l _).size; simp; omega, fun k hk h1 h2 => ?_⟩
  by_cases e : k = l
  · subst e
    rw [World.putObj_heap_same (by omega), hl]
  · rw [World.putObj_heap_other e, h.block k (by omega) h1 h2, World.putObj_heap_other e]
/-- the state between two rounds -/
structure EndJ (Wi : World) (bL bH : Nat) (f : Nat → Fr) (p : Nat) (V : World) : Prop where
  keep : Keep2 bL bH Wi V
  lo : V.heap[bL]? = some (.cells #[.int .i64 (lowN f p).n, .int .i64 (lowN f p).d] 95 (0, 0))
  hi : V.heap[bH]? = some (.cells #[.int .i64 (highN f p).n, .int .i64 (highN f p).d] 95 (0, 0))
theorem EndJ.below {Wi V V' : World} {bL bH p : Nat} {f : Nat → Fr} (h : EndJ Wi bL bH f p V) (hb : Below V.heap.size V V') : EndJ Wi bL bH f p V' :=
  ⟨h.keep.trans (Keep2.of hb), (hb.block _ (Array.getElem?_eq_some_iff.1 h.lo).1).trans h.lo, (hb.block _ (Array.getElem?_eq_some_iff.1 h.hi).1).trans h.hi⟩
theorem keep_set {x y b k : Nat} {V W : World} {v : Value} (h : Keep2 x y V W) (hb : b = x ∨ b = y) : Keep2 x y V (W.setCell ⟨b, k, none⟩ v) := by
  refine ⟨h.os, h.tape, h.output, Nat.le_trans h.size (KeepsWalks.setCell W _ v).size, fun j hj h1 h2 => ?_⟩
  rw [Below.heap_setCell _ _ _ _ (by simp; omega), h.block j hj h1 h2]
theorem set2_other {W : World} {b B : Nat} (h : b ≠ B) (x y : Value) : ((W.setCell ⟨B, 0, none⟩ x).setCell ⟨B, 1, none⟩ y).heap[b]? = W.heap[b]? := by
  rw [Below.heap_setCell _ _ _ _ (by simpa using h), Below.heap_setCell _ _ _ _ (by simpa using h)]
theorem block_set2 {W : World} {b : Nat} {a0 b0 : Value} {t : TypeId} (h : W.heap[b]? = some (.cells #[a0, b0] t (0, 0))) (x y : Value) : ((W.setCell ⟨b, 0, none⟩ x).setCell ⟨b, 1, none⟩ y).heap[b]? = some (.cells #[x, y] t (0, 0)) := block_set 1 y (block_set 0 x h)

set_option maxRecDepth 100000 in
set_option maxHeartbeats 8000000 in
theorem ends_in (n : Nat) (t : Tab) (g : t.Good) (m : Rows) (bt : Nat) (slo shi tlo thi : Int) (w : World) (hI : t.In w) (hM : t.Rowed m w) (ft : t.tb.FitT tlo thi) (fs : t.tb.FitS slo shi)
    (z0 : w.cell? ⟨bt, 0, none⟩ = some (.slice t.aT t.nT t.cT)) (z1 : w.cell? ⟨bt, 1, none⟩ = some (.slice t.aS t.nS t.cS)) :
    CallsIn Fence.wide n Tryz.prog 52 #[.pointer (some ⟨bt, 0, none⟩), m.val, .agg #[.int .i64 slo, .int .i64 shi], .agg #[.int .i64 tlo, .int .i64 thi]] w fun e w' =>
      e = .returned (.tuple #[(t.low m slo shi tlo thi).val, (t.high m slo shi tlo thi).val]) ∧ Below w.heap.size w w' := by
  have LOW := Lib.hid (show t.low m slo shi tlo thi = lowN (t.cf m slo shi tlo thi) (t.nc slo shi tlo thi) from rfl)
  have HIGH := Lib.hid (show t.high m slo shi tlo thi = highN (t.cf m slo shi tlo thi) (t.nc slo shi tlo thi) from rfl)
  rw [LOW.out, HIGH.out]
  have NC := Lib.hid (show t.nc slo shi tlo thi = (marksP t.T t.nT tlo thi).length * (marksP t.S t.nS slo shi).length from rfl)
  have FITS := Lib.hid (fun p hp => cf_fit g hM ft fs (p := p) hp)
  have VALS := Lib.hid (fun (W : World) (hb : Below w.heap.size w W) (i k : Nat) (hi : i < (marksP t.T t.nT tlo thi).length) (hk : k < (marksP t.S t.nS slo shi).length) =>
    value_any t g m bt ((marksP t.T t.nT tlo thi).getD i 0) ((marksP t.S t.nS slo shi).getD k 0) W (hI.below hb) (hM.below hb) (marks_fitT ft hi) (marks_fitS fs hk) (below_cell hb z0) (below_cell hb z1))
  have CF := Lib.hid (fun (i k : Nat) (hk : k < (marksP t.S t.nS slo shi).length) => show t.cf m slo shi tlo thi (i * (marksP t.S t.nS slo shi).length + k) = t.valM m ((marksP t.T t.nT tlo thi).getD i 0) ((marksP t.S t.nS slo shi).getD k 0) by
    unfold Tab.cf cornF; rw [(corn_at hk).1, (corn_at hk).2]; rfl)
  obtain ⟨f, hf⟩ : ∃ f, t.cf m slo shi tlo thi = f := ⟨_, rfl⟩
  rw [hf] at CF FITS ⊢
  clear LOW HIGH hf
  have t2 := g.ok.t2
  have t32 := g.ok.t32
  have s2 := g.ok.s2
  have s32 := g.ok.s32
  simp only [Tab.tb] at t2 t32 s2 s32
  unfold Rows.val at *
  obtain ⟨W1, hW1⟩ : ∃ W1, (((((w.alloc (.cells #[.pointer (some ⟨bt, 0, none⟩)] 93)).alloc (.cells #[.slice m.a m.n m.c] 23)).alloc (.cells #[.int .i64 slo, .int .i64 shi] 27)).alloc (.cells #[.int .i64 tlo, .int .i64 thi] 27)).alloc (.cells #[.int .i64 0, .int .i64 0] 95)).alloc (.cells #[.int .i64 0, .int .i64 0] 95) = W1 := ⟨_, rfl⟩
  have hBc : Below w.heap.size w W1 := by rw [← hW1]; exact (((((below_alloc _ _).alloc (by simp) _).alloc (by simp <;> omega) _).alloc (by simp <;> omega) _).alloc (by simp <;> omega) _).alloc (by simp <;> omega) _
  have zc0 : W1.heap[w.heap.size]? = some (.cells #[.pointer (some ⟨bt, 0, none⟩)] 93 (0, 0)) := by rw [← hW1]; exact alloc_keep (alloc_keep (alloc_keep (alloc_keep (alloc_keep (alloc_at rfl)))))
  have zc1 : W1.heap[w.heap.size + 1]? = some (.cells #[.slice m.a m.n m.c] 23 (0, 0)) := by rw [← hW1]; exact alloc_keep (alloc_keep (alloc_keep (alloc_keep (alloc_at (by simp)))))
  have zc2 : W1.heap[w.heap.size + 1 + 1]? = some (.cells #[.int .i64 slo, .int .i64 shi] 27 (0, 0)) := by rw [← hW1]; exact alloc_keep (alloc_keep (alloc_keep (alloc_at (by simp <;> omega))))
  have zc3 : W1.heap[w.heap.size + 1 + 1 + 1]? = some (.cells #[.int .i64 tlo, .int .i64 thi] 27 (0, 0)) := by rw [← hW1]; exact alloc_keep (alloc_keep (alloc_at (by simp <;> omega)))
  have zc4 : W1.heap[w.heap.size + 1 + 1 + 1 + 1]? = some (.cells #[.int .i64 0, .int .i64 0] 95 (0, 0)) := by rw [← hW1]; exact alloc_keep (alloc_at (by simp <;> omega))
  have zc5 : W1.heap[w.heap.size + 1 + 1 + 1 + 1 + 1]? = some (.cells #[.int .i64 0, .int .i64 0] 95 (0, 0)) := by rw [← hW1]; exact alloc_at (by simp <;> omega)
  have c00 : W1.cell? ⟨w.heap.size, 0, none⟩ = some (.pointer (some ⟨bt, 0, none⟩)) := cell_of_block zc0 0 (by simp)
  have c10 : W1.cell? ⟨w.heap.size + 1, 0, none⟩ = some (.slice m.a m.n m.c) := cell_of_block zc1 0 (by simp)
  have c20 : W1.cell? ⟨w.heap.size + 1 + 1, 0, none⟩ = some (.int .i64 slo) := cell_of_block zc2 0 (by simp)
  have c21 : W1.cell? ⟨w.heap.size + 1 + 1, 1, none⟩ = some (.int .i64 shi) := cell_of_block zc2 1 (by simp)
  have c30 : W1.cell? ⟨w.heap.size + 1 + 1 + 1, 0, none⟩ = some (.int .i64 tlo) := cell_of_block zc3 0 (by simp)
  have c31 : W1.cell? ⟨w.heap.size + 1 + 1 + 1, 1, none⟩ = some (.int .i64 thi) := cell_of_block zc3 1 (by simp)
  have c40 : W1.cell? ⟨w.heap.size + 1 + 1 + 1 + 1, 0, none⟩ = some (.int .i64 0) := cell_of_block zc4 0 (by simp)
  have c41 : W1.cell? ⟨w.heap.size + 1 + 1 + 1 + 1, 1, none⟩ = some (.int .i64 0) := cell_of_block zc4 1 (by simp)
  have c50 : W1.cell? ⟨w.heap.size + 1 + 1 + 1 + 1 + 1, 0, none⟩ = some (.int .i64 0) := cell_of_block zc5 0 (by simp)
  have c51 : W1.cell? ⟨w.heap.size + 1 + 1 + 1 + 1 + 1, 1, none⟩ = some (.int .i64 0) := cell_of_block zc5 1 (by simp)
  have lc0 := (Array.getElem?_eq_some_iff.1 zc0).1
  have lc1 := (Array.getElem?_eq_some_iff.1 zc1).1
  have lc2 := (Array.getElem?_eq_some_iff.1 zc2).1
  have lc3 := (Array.getElem?_eq_some_iff.1 zc3).1
  have lc4 := (Array.getElem?_eq_some_iff.1 zc4).1
  have lc5 := (Array.getElem?_eq_some_iff.1 zc5).1
  have Zc0 := Lib.hid zc0
  have Zc1 := Lib.hid zc1
  have Zc4 := Lib.hid zc4
  have Zc5 := Lib.hid zc5
  clear zc0 zc1 zc2 zc3 zc4 zc5
  have HBc := Lib.hid hBc; clear hBc
  have HWc := Lib.hid hW1; clear hW1
  obtain ⟨W2, hW2⟩ : ∃ W2, W1.alloc (.cells #[.func (.func 72) #[] #[]] 106) = W2 := ⟨_, rfl⟩
  have sz1 : W1.heap.size = w.heap.size + 6 := by rw [← HWc.out]; simp
  have hB2 : Below W1.heap.size W1 W2 := by rw [← hW2]; exact below_alloc _ _
  have zf2 : W2.heap[w.heap.size + 6]? = some (.cells #[.func (.func 72) #[] #[]] 106 (0, 0)) := by rw [← hW2]; exact alloc_at sz1
  have sz2 : W2.heap.size = w.heap.size + 7 := by rw [← hW2]; simp; omega
  have HW2 := Lib.hid hW2; clear hW2
  have b0 := below_cell hB2 c00
  have b1 := below_cell hB2 c20
  have b2 := below_cell hB2 c21
  have b3 := below_cell hB2 c30
  have b4 := below_cell hB2 c31
  have l2 : w.heap.size + 1 + 1 < W2.heap.size := by omega
  have l3 : w.heap.size + 1 + 1 + 1 < W2.heap.size := by omega
  have l0 : w.heap.size < W2.heap.size := by omega
  have COR := Lib.hid (corners_any bt slo shi tlo thi W2)
  refine callsIn_of_wp_marks Tryz.func52 rfl trivial ?_ rfl
  simp only [Tryz.ntmps52, List.size_toArray, List.length_cons, List.length_nil, Nat.reduceAdd, Nat.reduceSub, Array.replicate_succ, Array.replicate_zero, List.push_toArray, List.append_toArray, List.nil_append, List.cons_append]
  refine wpIn_wide.2 ?_
  go_upto_region 1 with (fail)
  rw [HWc.out]
  go_wp2_with fail
  rw [HW2.out]
  refine COR.out.mono ?_
  rintro e W0 ⟨rfl, hH, hb0, hs0⟩
  have K4 := Lib.hid ((hb0.block _ (by omega)).trans ((hB2.block _ (by omega)).trans Zc4.out))
  have K5 := Lib.hid ((hb0.block _ (by omega)).trans ((hB2.block _ (by omega)).trans Zc5.out))
  have K0 := Lib.hid ((hb0.block _ (by omega)).trans ((hB2.block _ (by omega)).trans Zc0.out))
  have K1 := Lib.hid ((hb0.block _ (by omega)).trans ((hB2.block _ (by omega)).trans Zc1.out))
  have K6 := Lib.hid ((hb0.block _ (by omega)).trans zf2)
  have BW := Lib.hid (thru hb0 (thru hB2 HBc.out))
  rw [sz2] at hH
  have HH := Lib.hid hH
  have HI := Lib.hid (hI.below BW.out)
  have y0 := Lib.hid (below_cell BW.out z0)
  have y1 := Lib.hid (below_cell BW.out z1)
  clear hH hb0 hB2 zf2 b0 b1 b2 b3 b4 l0 l2 l3 COR hI hM z0 z1 ft fs g c00 c10 c20 c21 c30 c31 c40 c41 c50 c51 lc0 lc1 lc2 lc3 lc4 lc5
  rw [sz2] at hs0
  have SZ := Lib.hid hs0; clear hs0
  go_wp2_with fail
  refine (wpIn_wide (n := n)).1 ?_
  refine wpIn_rangeFunc_X (gf := 85) (lb := #[.pointer (some ⟨w.heap.size + 7 + 1 + 1 + 1, 0, none⟩), .pointer (some ⟨w.heap.size + 7, 0, none⟩), .pointer (some ⟨w.heap.size + 7 + 1, 0, none⟩), .pointer (some ⟨w.heap.size + 7 + 1 + 1, 0, none⟩)]) rfl (enters_of Tryz.func85 (by kernel_rfl) rfl)
    (fun rec e W => (∃ v, e = .returned v) ∧ EndJ ((W0.alloc (.deferred (some []))).alloc (.loop rec)) (w.heap.size + 1 + 1 + 1 + 1) (w.heap.size + 1 + 1 + 1 + 1 + 1) f (t.nc slo shi tlo thi) W) ?call ?ret ?out
  case out => rintro rec e W ⟨h, _⟩; exact h
  case call =>
    intro rec r1 r2 r3 r4 r5 r6
    obtain ⟨Wi, hWi⟩ : ∃ Wi, (W0.alloc (.deferred (some []))).alloc (.loop rec) = Wi := ⟨_, rfl⟩
    have hBi : Below W0.heap.size W0 Wi := by rw [← hWi]; exact (below_alloc _ _).alloc (by simp) _
    have hli : Wi.heap[W0.heap.size + 1]? = some (.loop rec) := by rw [← hWi]; exact alloc_at (by simp)
    rw [hWi]
    clear hWi
    have szi := hBi.size
    rw [NC.out]
    refine corners2_in (n - 1) (W0.heap.size + 1) t _ _ _ _ bt slo shi tlo thi Wi (w.heap.size + 1 + 1 + 1 + 1) (w.heap.size + 1 + 1 + 1 + 1 + 1) (HI.out.below hBi) t2 t32 s2 s32 (HH.out.below hBi) (below_cell hBi y0.out) (below_cell hBi y1.out) (by have := SZ.out; omega) (by have := SZ.out; omega)
      (fun p V => EndJ Wi (w.heap.size + 1 + 1 + 1 + 1) (w.heap.size + 1 + 1 + 1 + 1 + 1) f p V) (fun p V V' h hb => h.below hb) ?round ?start
    case start => exact ⟨Keep2.refl _ _ _, (hBi.block _ (by have := SZ.out; omega)).trans K4.out, (hBi.block _ (by have := SZ.out; omega)).trans K5.out⟩
    case round =>
      intro i k V hi hk hJ
      have hlV : V.heap[W0.heap.size + 1]? = some (.loop rec) := (hJ.keep.block _ (Array.getElem?_eq_some_iff.1 hli).1 (by have := SZ.out; omega) (by have := SZ.out; omega)).trans hli
      refine yieldAt_J hlV r1 r3 r4 r5 r6 rfl ?_
      have hp : i * (marksP t.S t.nS slo shi).length + k < t.nc slo shi tlo thi := by rw [NC.out]; exact corn_lt hi hk
      have CFX := CF.out i k hk
      have VAL := fun W hb => VALS.out W hb i k hi hk
      rw [← CFX] at VAL
      obtain ⟨x, hx⟩ : ∃ x, (marksP t.T t.nT tlo thi).getD i 0 = x := ⟨_, rfl⟩
      obtain ⟨y, hy⟩ : ∃ y, (marksP t.S t.nS slo shi).getD k 0 = y := ⟨_, rfl⟩
      rw [hx, hy] at VAL
      rw [hx, hy]
      obtain ⟨p, hpp⟩ : ∃ p, i * (marksP t.S t.nS slo shi).length + k = p := ⟨_, rfl⟩
      rw [hpp] at VAL hJ hp ⊢
      have FP := FITS.out p hp
      have FL := lowN_fit (f := f) (fun j hj => FITS.out j hj) p (by omega)
      have FH := highN_fit (f := f) (fun j hj => FITS.out j hj) p (by have := SZ.out; omega)
      have HV := Lib.hid VAL; have HJ := Lib.hid hJ; have HLV := Lib.hid hlV; have HLI := Lib.hid hli
      have HFP := Lib.hid FP; have HFL := Lib.hid FL; have HFH := Lib.hid FH
      have OLD := Lib.hid (fun (k : Nat) (o : Obj) (h : W0.heap[k]? = some o) (h1 : k ≠ w.heap.size + 1 + 1 + 1 + 1) (h2 : k ≠ w.heap.size + 1 + 1 + 1 + 1 + 1) => (HJ.out.keep.block k (Nat.lt_of_lt_of_le (Array.getElem?_eq_some_iff.1 h).1 hBi.size) h1 h2).trans ((hBi.block k (Array.getElem?_eq_some_iff.1 h).1).trans h))
      have VW := Lib.hid (HJ.out.keep.low (BW.out.trans (hBi.mono BW.out.size)) (Nat.le_trans BW.out.size hBi.size) (by omega) (by omega))
      clear VAL hJ hlV hli FP FL FH hx hy hpp CFX hi hk hp r3 r4 r5 r6 hBi
      gi_wp2_with fail
      refine ⟨HLV.out, ?_⟩
      have VZ := VW.out.size
      have LL := (Array.getElem?_eq_some_iff.1 HLV.out).1
      have LX := SZ.out
      obtain ⟨Wb, hWb⟩ : ∃ Wb, V.putObj (W0.heap.size + 1) (.loop { rec with state := .busy }) = Wb := ⟨_, rfl⟩
      have ob : ∀ (k : Nat) (o : Obj), V.heap[k]? = some o → k ≠ W0.heap.size + 1 → Wb.heap[k]? = some o := fun k o h h1 => by rw [← hWb]; exact (World.putObj_heap_other h1).trans h
      have ZR := Lib.hid (show Wb.heap[W0.heap.size + 1]? = some (.loop { rec with state := .busy }) by rw [← hWb]; exact World.putObj_heap_same (by omega))
      have szb : Wb.heap.size = V.heap.size := by rw [← hWb]; simp [World.putObj]
      have ZL := Lib.hid (ob _ _ HJ.out.lo (by omega))
      have ZH := Lib.hid (ob _ _ HJ.out.hi (by omega))
      have ZF := Lib.hid (ob _ _ (OLD.out _ _ K6.out (by omega) (by omega)) (by omega))
      have zp := ob _ _ (OLD.out _ _ K0.out (by omega) (by omega)) (by omega)
      have zm := ob _ _ (OLD.out _ _ K1.out (by omega) (by omega)) (by omega)
      have BWb : Below w.heap.size w Wb := VW.out.trans ⟨by rw [← hWb]; rfl, by rw [← hWb]; rfl, by rw [← hWb]; rfl, by omega, fun k hk => by rw [← hWb]; exact World.putObj_heap_other (by omega)⟩
      have HVB := Lib.hid (HV.out Wb BWb)
      have cp := cell_of_block zp 0 (by simp)
      have cm := cell_of_block zm 0 (by simp)
      simp only [List.getElem_toArray, List.getElem_cons_zero] at cp cm
      have lp := (Array.getElem?_eq_some_iff.1 zp).1
      have lm := (Array.getElem?_eq_some_iff.1 zm).1
      have HWB := Lib.hid hWb; have SZB := Lib.hid szb; have HBW := Lib.hid BWb
      rw [hWb]
      clear ob zp zm hWb szb BWb VZ LL LX HV OLD VW
      obtain ⟨v, hv⟩ : ∃ v, f p = v := ⟨_, rfl⟩
      obtain ⟨lo, hlo⟩ : ∃ v, lowN f p = v := ⟨_, rfl⟩
      obtain ⟨hi, hhi⟩ : ∃ v, highN f p = v := ⟨_, rfl⟩
      have EL := Lib.hid (show lowN f (p + 1) = lowS v lo by rw [← hv, ← hlo]; rfl)
      have EH := Lib.hid (show highN f (p + 1) = highS v hi by rw [← hv, ← hhi]; rfl)
      rw [hv] at HVB HFP
      rw [hlo] at HFL ZL
      rw [hhi] at HFH ZH
      clear hv hlo hhi
      unfold Fr.val at HVB
      obtain ⟨vn, vd⟩ := v
      obtain ⟨ln, ld⟩ := lo
      obtain ⟨hn, hd⟩ := hi
      dsimp only at HVB HFP HFL HFH ZL ZH
      gi_upto_region 6 with (refine ⟨trivial, (fun h => (by cases h)), ?_⟩; refine (CallsIn.inRound _ (callsIn_wide.2 HVB.out)).mono ?_; rintro e w1 ⟨rfl, hb1⟩)
      obtain ⟨W3, hW3⟩ : ∃ W3, w1.alloc (.cells #[.int .i64 vn, .int .i64 vd] 95) = W3 := ⟨_, rfl⟩
      have hB3 : Below Wb.heap.size Wb W3 := by rw [← hW3]; exact hb1.alloc hb1.size _
      obtain ⟨bv, hbv⟩ : ∃ bv, w1.heap.size = bv := ⟨_, rfl⟩
      have ZV := Lib.hid (show W3.heap[bv]? = some (.cells #[.int .i64 vn, .int .i64 vd] 95 (0, 0)) by rw [← hW3]; exact alloc_at hbv)
      replace ZL := Lib.hid ((hB3.block _ (Array.getElem?_eq_some_iff.1 ZL.out).1).trans ZL.out)
      replace ZH := Lib.hid ((hB3.block _ (Array.getElem?_eq_some_iff.1 ZH.out).1).trans ZH.out)
      replace ZF := Lib.hid ((hB3.block _ (Array.getElem?_eq_some_iff.1 ZF.out).1).trans ZF.out)
      replace ZR := Lib.hid ((hB3.block _ (Array.getElem?_eq_some_iff.1 ZR.out).1).trans ZR.out)
      have KP := Lib.hid (Keep2.of (x := w.heap.size + 1 + 1 + 1 + 1) (y := w.heap.size + 1 + 1 + 1 + 1 + 1) hB3)
      have LV := hb1.size
      have VS : w.heap.size + 11 ≤ V.heap.size := by have := HJ.out.keep.size; have := SZ.out; omega
      rw [SZB.out] at LV
      have LX := SZ.out
      have VX := HBW.out.size
      rw [SZB.out] at VX
      rw [hW3]
      rw [hbv] at LV ⊢
      clear hW3 hB3 hb1 hbv cp cm lp lm HVB
      rcases HFL.out with ⟨e0, -⟩ | ⟨-, FL⟩
      · obtain rfl : ld = 0 := e0
        have NL := Lib.hid (show lowS ⟨vn, vd⟩ ⟨ln, 0⟩ = ⟨vn, vd⟩ from if_pos (.inl rfl))
        have cl0 : W3.cell? ⟨w.heap.size + 1 + 1 + 1 + 1, 0, none⟩ = some (.int .i64 ln) := cell_of_block ZL.out 0 (by simp)
        have cl1 : W3.cell? ⟨w.heap.size + 1 + 1 + 1 + 1, 1, none⟩ = some (.int .i64 0) := cell_of_block ZL.out 1 (by simp)
        have ch0 : W3.cell? ⟨w.heap.size + 1 + 1 + 1 + 1 + 1, 0, none⟩ = some (.int .i64 hn) := cell_of_block ZH.out 0 (by simp)
        have ch1 : W3.cell? ⟨w.heap.size + 1 + 1 + 1 + 1 + 1, 1, none⟩ = some (.int .i64 hd) := cell_of_block ZH.out 1 (by simp)
        have cv0 : W3.cell? ⟨bv, 0, none⟩ = some (.int .i64 vn) := cell_of_block ZV.out 0 (by simp)
        have cv1 : W3.cell? ⟨bv, 1, none⟩ = some (.int .i64 vd) := cell_of_block ZV.out 1 (by simp)
        have cf0 : W3.cell? ⟨w.heap.size + 6, 0, none⟩ = some (.func (.func 72) #[] #[]) := cell_of_block ZF.out 0 (by simp)
        have ql := (Array.getElem?_eq_some_iff.1 ZL.out).1
        have qh := (Array.getElem?_eq_some_iff.1 ZH.out).1
        have qv := (Array.getElem?_eq_some_iff.1 ZV.out).1
        have qf := (Array.getElem?_eq_some_iff.1 ZF.out).1
        have fz0 := frozen_of_block ZL.out 0
        have fz1 := frozen_of_block ZL.out 1
        gi_upto_region 8 with (fail)
        refine ⟨fun f h => (by cases h), ?_⟩
        rename_i aK q1 q2 q3 q4
        refine aK _ _ ?_
        clear q4 q3 q2 q1
        gi_upto_region 8 with (fail)
        clear cl0 cl1 ch0 ch1 cv0 cv1 cf0 ql qh qv qf
        clear fz0 fz1
        obtain ⟨W4, hW4⟩ : ∃ W9, (W3.setCell ⟨w.heap.size + 1 + 1 + 1 + 1, 0, none⟩ (.int .i64 vn)).setCell ⟨w.heap.size + 1 + 1 + 1 + 1, 1, none⟩ (.int .i64 vd) = W9 := ⟨_, rfl⟩
        replace ZL := Lib.hid (block_set2 ZL.out (.int .i64 vn) (.int .i64 vd))
        replace ZH := Lib.hid ((set2_other (W := W3) (B := w.heap.size + 1 + 1 + 1 + 1) (by omega) (.int .i64 vn) (.int .i64 vd)).trans ZH.out)
        replace ZV := Lib.hid ((set2_other (W := W3) (B := w.heap.size + 1 + 1 + 1 + 1) (by omega) (.int .i64 vn) (.int .i64 vd)).trans ZV.out)
        replace ZF := Lib.hid ((set2_other (W := W3) (B := w.heap.size + 1 + 1 + 1 + 1) (by omega) (.int .i64 vn) (.int .i64 vd)).trans ZF.out)
        replace ZR := Lib.hid ((set2_other (W := W3) (B := w.heap.size + 1 + 1 + 1 + 1) (by omega) (.int .i64 vn) (.int .i64 vd)).trans ZR.out)
        replace KP := Lib.hid (keep_set (k := 1) (v := .int .i64 vd) (keep_set (k := 0) (v := .int .i64 vn) KP.out (b := w.heap.size + 1 + 1 + 1 + 1) (by omega)) (b := w.heap.size + 1 + 1 + 1 + 1) (by omega))
        rw [hW4] at ZL ZH ZV ZF ZR KP ⊢
        clear hW4
        rcases HFH.out with ⟨e0, -⟩ | ⟨-, FH⟩
        · obtain rfl : hd = 0 := e0
          have NH := Lib.hid (show highS ⟨vn, vd⟩ ⟨hn, 0⟩ = ⟨vn, vd⟩ from if_pos (.inl rfl))
          have cl0 : W4.cell? ⟨w.heap.size + 1 + 1 + 1 + 1, 0, none⟩ = some (.int .i64 vn) := cell_of_block ZL.out 0 (by simp)
          have cl1 : W4.cell? ⟨w.heap.size + 1 + 1 + 1 + 1, 1, none⟩ = some (.int .i64 vd) := cell_of_block ZL.out 1 (by simp)
          have ch0 : W4.cell? ⟨w.heap.size + 1 + 1 + 1 + 1 + 1, 0, none⟩ = some (.int .i64 hn) := cell_of_block ZH.out 0 (by simp)
          have ch1 : W4.cell? ⟨w.heap.size + 1 + 1 + 1 + 1 + 1, 1, none⟩ = some (.int .i64 0) := cell_of_block ZH.out 1 (by simp)
          have cv0 : W4.cell? ⟨bv, 0, none⟩ = some (.int .i64 vn) := cell_of_block ZV.out 0 (by simp)
          have cv1 : W4.cell? ⟨bv, 1, none⟩ = some (.int .i64 vd) := cell_of_block ZV.out 1 (by simp)
          have cf0 : W4.cell? ⟨w.heap.size + 6, 0, none⟩ = some (.func (.func 72) #[] #[]) := cell_of_block ZF.out 0 (by simp)
          have ql := (Array.getElem?_eq_some_iff.1 ZL.out).1
          have qh := (Array.getElem?_eq_some_iff.1 ZH.out).1
          have qv := (Array.getElem?_eq_some_iff.1 ZV.out).1
          have qf := (Array.getElem?_eq_some_iff.1 ZF.out).1
          have fz0 := frozen_of_block ZH.out 0
          have fz1 := frozen_of_block ZH.out 1
          gi_upto_region 10 with (fail)
          refine ⟨fun f h => (by cases h), ?_⟩
          rename_i aK q1 q2 q3 q4
          refine aK _ _ ?_
          clear q4 q3 q2 q1
          gi_wp2_with fail
          clear cl0 cl1 ch0 ch1 cv0 cv1 cf0 ql qh qv qf
          clear fz0 fz1
          obtain ⟨W5, hW5⟩ : ∃ W9, (W4.setCell ⟨w.heap.size + 1 + 1 + 1 + 1 + 1, 0, none⟩ (.int .i64 vn)).setCell ⟨w.heap.size + 1 + 1 + 1 + 1 + 1, 1, none⟩ (.int .i64 vd) = W9 := ⟨_, rfl⟩
          replace ZL := Lib.hid ((set2_other (W := W4) (B := w.heap.size + 1 + 1 + 1 + 1 + 1) (by omega) (.int .i64 vn) (.int .i64 vd)).trans ZL.out)
          replace ZH := Lib.hid (block_set2 ZH.out (.int .i64 vn) (.int .i64 vd))
          replace ZV := Lib.hid ((set2_other (W := W4) (B := w.heap.size + 1 + 1 + 1 + 1 + 1) (by omega) (.int .i64 vn) (.int .i64 vd)).trans ZV.out)
          replace ZF := Lib.hid ((set2_other (W := W4) (B := w.heap.size + 1 + 1 + 1 + 1 + 1) (by omega) (.int .i64 vn) (.int .i64 vd)).trans ZF.out)
          replace ZR := Lib.hid ((set2_other (W := W4) (B := w.heap.size + 1 + 1 + 1 + 1 + 1) (by omega) (.int .i64 vn) (.int .i64 vd)).trans ZR.out)
          replace KP := Lib.hid (keep_set (k := 1) (v := .int .i64 vd) (keep_set (k := 0) (v := .int .i64 vn) KP.out (b := w.heap.size + 1 + 1 + 1 + 1 + 1) (by omega)) (b := w.heap.size + 1 + 1 + 1 + 1 + 1) (by omega))
          rw [hW5] at ZL ZH ZV ZF ZR KP ⊢
          clear hW5
          refine ⟨_, _, run_endRound none ZR.out, ⟨rfl, ?_, ?_⟩⟩
          · simp only [Option.isNone_none, if_true]
            rw [loop_again r1 r2]
            have KR := keep_round HLV.out (by rw [HWB.out]; exact KP.out)
            exact ⟨HJ.out.keep.trans KR, by rw [World.putObj_heap_other (by omega), ZL.out, EL.out, NL.out], by rw [World.putObj_heap_other (by omega), ZH.out, EH.out, NH.out]⟩
          · simp only [Option.isNone_none, if_true]
            rw [loop_again r1 r2]
            exact keep_round HLV.out (by rw [HWB.out]; exact KP.out)
        · have FH1 := FH.d1
          dsimp only at FH1
          have ne0 : (hd == 0) = false := by simp; omega
          have LESSC := less_any ⟨hn, hd⟩ ⟨vn, vd⟩ W4 FH HFP.out
          clear FH FH1
          dsimp only at LESSC
          cases hc : ltF ⟨hn, hd⟩ ⟨vn, vd⟩ with
          | false =>
            rw [hc] at LESSC
            have NH := Lib.hid (show highS ⟨vn, vd⟩ ⟨hn, hd⟩ = ⟨hn, hd⟩ from if_neg (by rw [hc]; simp only [Bool.false_eq_true, or_false]; intro h; simp at ne0; exact ne0 h))
            clear hc
            have cl0 : W4.cell? ⟨w.heap.size + 1 + 1 + 1 + 1, 0, none⟩ = some (.int .i64 vn) := cell_of_block ZL.out 0 (by simp)
            have cl1 : W4.cell? ⟨w.heap.size + 1 + 1 + 1 + 1, 1, none⟩ = some (.int .i64 vd) := cell_of_block ZL.out 1 (by simp)
            have ch0 : W4.cell? ⟨w.heap.size + 1 + 1 + 1 + 1 + 1, 0, none⟩ = some (.int .i64 hn) := cell_of_block ZH.out 0 (by simp)
            have ch1 : W4.cell? ⟨w.heap.size + 1 + 1 + 1 + 1 + 1, 1, none⟩ = some (.int .i64 hd) := cell_of_block ZH.out 1 (by simp)
            have cv0 : W4.cell? ⟨bv, 0, none⟩ = some (.int .i64 vn) := cell_of_block ZV.out 0 (by simp)
            have cv1 : W4.cell? ⟨bv, 1, none⟩ = some (.int .i64 vd) := cell_of_block ZV.out 1 (by simp)
            have cf0 : W4.cell? ⟨w.heap.size + 6, 0, none⟩ = some (.func (.func 72) #[] #[]) := cell_of_block ZF.out 0 (by simp)
            have ql := (Array.getElem?_eq_some_iff.1 ZL.out).1
            have qh := (Array.getElem?_eq_some_iff.1 ZH.out).1
            have qv := (Array.getElem?_eq_some_iff.1 ZV.out).1
            have qf := (Array.getElem?_eq_some_iff.1 ZF.out).1
            gi_wp2_with (refine ⟨trivial, (fun h => (by cases h)), ?_⟩; refine (CallsIn.inRound _ (callsIn_wide.2 LESSC)).mono ?_; rintro e w4 ⟨rfl, hb4⟩)
            clear cl0 cl1 ch0 ch1 cv0 cv1 cf0 ql qh qv qf
            replace ZL := Lib.hid ((hb4.block _ (Array.getElem?_eq_some_iff.1 ZL.out).1).trans ZL.out)
            replace ZH := Lib.hid ((hb4.block _ (Array.getElem?_eq_some_iff.1 ZH.out).1).trans ZH.out)
            replace ZV := Lib.hid ((hb4.block _ (Array.getElem?_eq_some_iff.1 ZV.out).1).trans ZV.out)
            replace ZF := Lib.hid ((hb4.block _ (Array.getElem?_eq_some_iff.1 ZF.out).1).trans ZF.out)
            replace ZR := Lib.hid ((hb4.block _ (Array.getElem?_eq_some_iff.1 ZR.out).1).trans ZR.out)
            replace KP := Lib.hid (KP.out.trans (Keep2.of hb4))
            clear hb4
            obtain ⟨W6, hW6⟩ : ∃ W9, w4 = W9 := ⟨_, rfl⟩
            subst hW6
            refine ⟨_, _, run_endRound none ZR.out, ⟨rfl, ?_, ?_⟩⟩
            · simp only [Option.isNone_none, if_true]
              rw [loop_again r1 r2]
              have KR := keep_round HLV.out (by rw [HWB.out]; exact KP.out)
              exact ⟨HJ.out.keep.trans KR, by rw [World.putObj_heap_other (by omega), ZL.out, EL.out, NL.out], by rw [World.putObj_heap_other (by omega), ZH.out, EH.out, NH.out]⟩
            · simp only [Option.isNone_none, if_true]
              rw [loop_again r1 r2]
              exact keep_round HLV.out (by rw [HWB.out]; exact KP.out)
          | true =>
            rw [hc] at LESSC
            have NH := Lib.hid (show highS ⟨vn, vd⟩ ⟨hn, hd⟩ = ⟨vn, vd⟩ from if_pos (.inr hc))
            clear hc
            have cl0 : W4.cell? ⟨w.heap.size + 1 + 1 + 1 + 1, 0, none⟩ = some (.int .i64 vn) := cell_of_block ZL.out 0 (by simp)
            have cl1 : W4.cell? ⟨w.heap.size + 1 + 1 + 1 + 1, 1, none⟩ = some (.int .i64 vd) := cell_of_block ZL.out 1 (by simp)
            have ch0 : W4.cell? ⟨w.heap.size + 1 + 1 + 1 + 1 + 1, 0, none⟩ = some (.int .i64 hn) := cell_of_block ZH.out 0 (by simp)
            have ch1 : W4.cell? ⟨w.heap.size + 1 + 1 + 1 + 1 + 1, 1, none⟩ = some (.int .i64 hd) := cell_of_block ZH.out 1 (by simp)
            have cv0 : W4.cell? ⟨bv, 0, none⟩ = some (.int .i64 vn) := cell_of_block ZV.out 0 (by simp)
            have cv1 : W4.cell? ⟨bv, 1, none⟩ = some (.int .i64 vd) := cell_of_block ZV.out 1 (by simp)
            have cf0 : W4.cell? ⟨w.heap.size + 6, 0, none⟩ = some (.func (.func 72) #[] #[]) := cell_of_block ZF.out 0 (by simp)
            have ql := (Array.getElem?_eq_some_iff.1 ZL.out).1
            have qh := (Array.getElem?_eq_some_iff.1 ZH.out).1
            have qv := (Array.getElem?_eq_some_iff.1 ZV.out).1
            have qf := (Array.getElem?_eq_some_iff.1 ZF.out).1
            gi_upto_region 9 with (refine ⟨trivial, (fun h => (by cases h)), ?_⟩; refine (CallsIn.inRound _ (callsIn_wide.2 LESSC)).mono ?_; rintro e w4 ⟨rfl, hb4⟩)
            clear cl0 cl1 ch0 ch1 cv0 cv1 cf0 ql qh qv qf
            replace ZL := Lib.hid ((hb4.block _ (Array.getElem?_eq_some_iff.1 ZL.out).1).trans ZL.out)
            replace ZH := Lib.hid ((hb4.block _ (Array.getElem?_eq_some_iff.1 ZH.out).1).trans ZH.out)
            replace ZV := Lib.hid ((hb4.block _ (Array.getElem?_eq_some_iff.1 ZV.out).1).trans ZV.out)
            replace ZF := Lib.hid ((hb4.block _ (Array.getElem?_eq_some_iff.1 ZF.out).1).trans ZF.out)
            replace ZR := Lib.hid ((hb4.block _ (Array.getElem?_eq_some_iff.1 ZR.out).1).trans ZR.out)
            replace KP := Lib.hid (KP.out.trans (Keep2.of hb4))
            clear hb4
            obtain ⟨W7, hW7⟩ : ∃ W9, w4 = W9 := ⟨_, rfl⟩
            subst hW7
            have cl0 : w4.cell? ⟨w.heap.size + 1 + 1 + 1 + 1, 0, none⟩ = some (.int .i64 vn) := cell_of_block ZL.out 0 (by simp)
            have cl1 : w4.cell? ⟨w.heap.size + 1 + 1 + 1 + 1, 1, none⟩ = some (.int .i64 vd) := cell_of_block ZL.out 1 (by simp)
            have ch0 : w4.cell? ⟨w.heap.size + 1 + 1 + 1 + 1 + 1, 0, none⟩ = some (.int .i64 hn) := cell_of_block ZH.out 0 (by simp)
            have ch1 : w4.cell? ⟨w.heap.size + 1 + 1 + 1 + 1 + 1, 1, none⟩ = some (.int .i64 hd) := cell_of_block ZH.out 1 (by simp)
            have cv0 : w4.cell? ⟨bv, 0, none⟩ = some (.int .i64 vn) := cell_of_block ZV.out 0 (by simp)
            have cv1 : w4.cell? ⟨bv, 1, none⟩ = some (.int .i64 vd) := cell_of_block ZV.out 1 (by simp)
            have cf0 : w4.cell? ⟨w.heap.size + 6, 0, none⟩ = some (.func (.func 72) #[] #[]) := cell_of_block ZF.out 0 (by simp)
            have ql := (Array.getElem?_eq_some_iff.1 ZL.out).1
            have qh := (Array.getElem?_eq_some_iff.1 ZH.out).1
            have qv := (Array.getElem?_eq_some_iff.1 ZV.out).1
            have qf := (Array.getElem?_eq_some_iff.1 ZF.out).1
            have fz0 := frozen_of_block ZH.out 0
            have fz1 := frozen_of_block ZH.out 1
            gi_wp2_with fail
            clear cl0 cl1 ch0 ch1 cv0 cv1 cf0 ql qh qv qf
            clear fz0 fz1
            obtain ⟨W8, hW8⟩ : ∃ W9, (w4.setCell ⟨w.heap.size + 1 + 1 + 1 + 1 + 1, 0, none⟩ (.int .i64 vn)).setCell ⟨w.heap.size + 1 + 1 + 1 + 1 + 1, 1, none⟩ (.int .i64 vd) = W9 := ⟨_, rfl⟩
            replace ZL := Lib.hid ((set2_other (W := w4) (B := w.heap.size + 1 + 1 + 1 + 1 + 1) (by omega) (.int .i64 vn) (.int .i64 vd)).trans ZL.out)
            replace ZH := Lib.hid (block_set2 ZH.out (.int .i64 vn) (.int .i64 vd))
            replace ZV := Lib.hid ((set2_other (W := w4) (B := w.heap.size + 1 + 1 + 1 + 1 + 1) (by omega) (.int .i64 vn) (.int .i64 vd)).trans ZV.out)
            replace ZF := Lib.hid ((set2_other (W := w4) (B := w.heap.size + 1 + 1 + 1 + 1 + 1) (by omega) (.int .i64 vn) (.int .i64 vd)).trans ZF.out)
            replace ZR := Lib.hid ((set2_other (W := w4) (B := w.heap.size + 1 + 1 + 1 + 1 + 1) (by omega) (.int .i64 vn) (.int .i64 vd)).trans ZR.out)
            replace KP := Lib.hid (keep_set (k := 1) (v := .int .i64 vd) (keep_set (k := 0) (v := .int .i64 vn) KP.out (b := w.heap.size + 1 + 1 + 1 + 1 + 1) (by omega)) (b := w.heap.size + 1 + 1 + 1 + 1 + 1) (by omega))
            rw [hW8] at ZL ZH ZV ZF ZR KP ⊢
            clear hW8
            refine ⟨_, _, run_endRound none ZR.out, ⟨rfl, ?_, ?_⟩⟩
            · simp only [Option.isNone_none, if_true]
              rw [loop_again r1 r2]
              have KR := keep_round HLV.out (by rw [HWB.out]; exact KP.out)
              exact ⟨HJ.out.keep.trans KR, by rw [World.putObj_heap_other (by omega), ZL.out, EL.out, NL.out], by rw [World.putObj_heap_other (by omega), ZH.out, EH.out, NH.out]⟩
            · simp only [Option.isNone_none, if_true]
              rw [loop_again r1 r2]
              exact keep_round HLV.out (by rw [HWB.out]; exact KP.out)
      · have FL1 := FL.d1
        dsimp only at FL1
        have ne0 : (ld == 0) = false := by simp; omega
        have LESSC := less_any ⟨vn, vd⟩ ⟨ln, ld⟩ W3 HFP.out FL
        clear FL FL1
        dsimp only at LESSC
        cases hc : ltF ⟨vn, vd⟩ ⟨ln, ld⟩ with
        | false =>
          rw [hc] at LESSC
          have NL := Lib.hid (show lowS ⟨vn, vd⟩ ⟨ln, ld⟩ = ⟨ln, ld⟩ from if_neg (by rw [hc]; simp only [Bool.false_eq_true, or_false]; intro h; simp at ne0; exact ne0 h))
          clear hc
          have cl0 : W3.cell? ⟨w.heap.size + 1 + 1 + 1 + 1, 0, none⟩ = some (.int .i64 ln) := cell_of_block ZL.out 0 (by simp)
          have cl1 : W3.cell? ⟨w.heap.size + 1 + 1 + 1 + 1, 1, none⟩ = some (.int .i64 ld) := cell_of_block ZL.out 1 (by simp)
          have ch0 : W3.cell? ⟨w.heap.size + 1 + 1 + 1 + 1 + 1, 0, none⟩ = some (.int .i64 hn) := cell_of_block ZH.out 0 (by simp)
          have ch1 : W3.cell? ⟨w.heap.size + 1 + 1 + 1 + 1 + 1, 1, none⟩ = some (.int .i64 hd) := cell_of_block ZH.out 1 (by simp)
          have cv0 : W3.cell? ⟨bv, 0, none⟩ = some (.int .i64 vn) := cell_of_block ZV.out 0 (by simp)
          have cv1 : W3.cell? ⟨bv, 1, none⟩ = some (.int .i64 vd) := cell_of_block ZV.out 1 (by simp)
          have cf0 : W3.cell? ⟨w.heap.size + 6, 0, none⟩ = some (.func (.func 72) #[] #[]) := cell_of_block ZF.out 0 (by simp)
          have ql := (Array.getElem?_eq_some_iff.1 ZL.out).1
          have qh := (Array.getElem?_eq_some_iff.1 ZH.out).1
          have qv := (Array.getElem?_eq_some_iff.1 ZV.out).1
          have qf := (Array.getElem?_eq_some_iff.1 ZF.out).1
          gi_upto_region 8 with (refine ⟨trivial, (fun h => (by cases h)), ?_⟩; refine (CallsIn.inRound _ (callsIn_wide.2 LESSC)).mono ?_; rintro e w4 ⟨rfl, hb4⟩)
          clear cl0 cl1 ch0 ch1 cv0 cv1 cf0 ql qh qv qf
          replace ZL := Lib.hid ((hb4.block _ (Array.getElem?_eq_some_iff.1 ZL.out).1).trans ZL.out)
          replace ZH := Lib.hid ((hb4.block _ (Array.getElem?_eq_some_iff.1 ZH.out).1).trans ZH.out)
          replace ZV := Lib.hid ((hb4.block _ (Array.getElem?_eq_some_iff.1 ZV.out).1).trans ZV.out)
          replace ZF := Lib.hid ((hb4.block _ (Array.getElem?_eq_some_iff.1 ZF.out).1).trans ZF.out)
          replace ZR := Lib.hid ((hb4.block _ (Array.getElem?_eq_some_iff.1 ZR.out).1).trans ZR.out)
          replace KP := Lib.hid (KP.out.trans (Keep2.of hb4))
          clear hb4
          obtain ⟨W9, hW9⟩ : ∃ W9, w4 = W9 := ⟨_, rfl⟩
          subst hW9
          clear LESSC ne0
          obtain ⟨W30, h30⟩ : ∃ W9, w4 = W9 := ⟨_, rfl⟩
          rw [h30] at ZL ZH ZV ZF ZR KP ⊢
          clear h30 w4
          rcases HFH.out with ⟨e0, -⟩ | ⟨-, FH⟩
          · obtain rfl : hd = 0 := e0
            have NH := Lib.hid (show highS ⟨vn, vd⟩ ⟨hn, 0⟩ = ⟨vn, vd⟩ from if_pos (.inl rfl))
            have cl0 : W30.cell? ⟨w.heap.size + 1 + 1 + 1 + 1, 0, none⟩ = some (.int .i64 ln) := cell_of_block ZL.out 0 (by simp)
            have cl1 : W30.cell? ⟨w.heap.size + 1 + 1 + 1 + 1, 1, none⟩ = some (.int .i64 ld) := cell_of_block ZL.out 1 (by simp)
            have ch0 : W30.cell? ⟨w.heap.size + 1 + 1 + 1 + 1 + 1, 0, none⟩ = some (.int .i64 hn) := cell_of_block ZH.out 0 (by simp)
            have ch1 : W30.cell? ⟨w.heap.size + 1 + 1 + 1 + 1 + 1, 1, none⟩ = some (.int .i64 0) := cell_of_block ZH.out 1 (by simp)
            have cv0 : W30.cell? ⟨bv, 0, none⟩ = some (.int .i64 vn) := cell_of_block ZV.out 0 (by simp)
            have cv1 : W30.cell? ⟨bv, 1, none⟩ = some (.int .i64 vd) := cell_of_block ZV.out 1 (by simp)
            have cf0 : W30.cell? ⟨w.heap.size + 6, 0, none⟩ = some (.func (.func 72) #[] #[]) := cell_of_block ZF.out 0 (by simp)
            have ql := (Array.getElem?_eq_some_iff.1 ZL.out).1
            have qh := (Array.getElem?_eq_some_iff.1 ZH.out).1
            have qv := (Array.getElem?_eq_some_iff.1 ZV.out).1
            have qf := (Array.getElem?_eq_some_iff.1 ZF.out).1
            have fz0 := frozen_of_block ZH.out 0
            have fz1 := frozen_of_block ZH.out 1
            gi_upto_region 10 with (fail)
            refine ⟨fun f h => (by cases h), ?_⟩
            rename_i aK q1 q2 q3 q4
            refine aK _ _ ?_
            clear q4 q3 q2 q1
            gi_wp2_with fail
            clear cl0 cl1 ch0 ch1 cv0 cv1 cf0 ql qh qv qf
            clear fz0 fz1
            obtain ⟨W10, hW10⟩ : ∃ W9, (W30.setCell ⟨w.heap.size + 1 + 1 + 1 + 1 + 1, 0, none⟩ (.int .i64 vn)).setCell ⟨w.heap.size + 1 + 1 + 1 + 1 + 1, 1, none⟩ (.int .i64 vd) = W9 := ⟨_, rfl⟩
            replace ZL := Lib.hid ((set2_other (W := W30) (B := w.heap.size + 1 + 1 + 1 + 1 + 1) (by omega) (.int .i64 vn) (.int .i64 vd)).trans ZL.out)
            replace ZH := Lib.hid (block_set2 ZH.out (.int .i64 vn) (.int .i64 vd))
            replace ZV := Lib.hid ((set2_other (W := W30) (B := w.heap.size + 1 + 1 + 1 + 1 + 1) (by omega) (.int .i64 vn) (.int .i64 vd)).trans ZV.out)
            replace ZF := Lib.hid ((set2_other (W := W30) (B := w.heap.size + 1 + 1 + 1 + 1 + 1) (by omega) (.int .i64 vn) (.int .i64 vd)).trans ZF.out)
            replace ZR := Lib.hid ((set2_other (W := W30) (B := w.heap.size + 1 + 1 + 1 + 1 + 1) (by omega) (.int .i64 vn) (.int .i64 vd)).trans ZR.out)
            replace KP := Lib.hid (keep_set (k := 1) (v := .int .i64 vd) (keep_set (k := 0) (v := .int .i64 vn) KP.out (b := w.heap.size + 1 + 1 + 1 + 1 + 1) (by omega)) (b := w.heap.size + 1 + 1 + 1 + 1 + 1) (by omega))
            rw [hW10] at ZL ZH ZV ZF ZR KP ⊢
            clear hW10
            refine ⟨_, _, run_endRound none ZR.out, ⟨rfl, ?_, ?_⟩⟩
            · simp only [Option.isNone_none, if_true]
              rw [loop_again r1 r2]
              have KR := keep_round HLV.out (by rw [HWB.out]; exact KP.out)
              exact ⟨HJ.out.keep.trans KR, by rw [World.putObj_heap_other (by omega), ZL.out, EL.out, NL.out], by rw [World.putObj_heap_other (by omega), ZH.out, EH.out, NH.out]⟩
            · simp only [Option.isNone_none, if_true]
              rw [loop_again r1 r2]
              exact keep_round HLV.out (by rw [HWB.out]; exact KP.out)
          · have FH1 := FH.d1
            dsimp only at FH1
            have ne0 : (hd == 0) = false := by simp; omega
            have LESSC := less_any ⟨hn, hd⟩ ⟨vn, vd⟩ W30 FH HFP.out
            clear FH FH1
            dsimp only at LESSC
            cases hc : ltF ⟨hn, hd⟩ ⟨vn, vd⟩ with
            | false =>
              rw [hc] at LESSC
              have NH := Lib.hid (show highS ⟨vn, vd⟩ ⟨hn, hd⟩ = ⟨hn, hd⟩ from if_neg (by rw [hc]; simp only [Bool.false_eq_true, or_false]; intro h; simp at ne0; exact ne0 h))
              clear hc
              have cl0 : W30.cell? ⟨w.heap.size + 1 + 1 + 1 + 1, 0, none⟩ = some (.int .i64 ln) := cell_of_block ZL.out 0 (by simp)
              have cl1 : W30.cell? ⟨w.heap.size + 1 + 1 + 1 + 1, 1, none⟩ = some (.int .i64 ld) := cell_of_block ZL.out 1 (by simp)
              have ch0 : W30.cell? ⟨w.heap.size + 1 + 1 + 1 + 1 + 1, 0, none⟩ = some (.int .i64 hn) := cell_of_block ZH.out 0 (by simp)
              have ch1 : W30.cell? ⟨w.heap.size + 1 + 1 + 1 + 1 + 1, 1, none⟩ = some (.int .i64 hd) := cell_of_block ZH.out 1 (by simp)
              have cv0 : W30.cell? ⟨bv, 0, none⟩ = some (.int .i64 vn) := cell_of_block ZV.out 0 (by simp)
              have cv1 : W30.cell? ⟨bv, 1, none⟩ = some (.int .i64 vd) := cell_of_block ZV.out 1 (by simp)
              have cf0 : W30.cell? ⟨w.heap.size + 6, 0, none⟩ = some (.func (.func 72) #[] #[]) := cell_of_block ZF.out 0 (by simp)
              have ql := (Array.getElem?_eq_some_iff.1 ZL.out).1
              have qh := (Array.getElem?_eq_some_iff.1 ZH.out).1
              have qv := (Array.getElem?_eq_some_iff.1 ZV.out).1
              have qf := (Array.getElem?_eq_some_iff.1 ZF.out).1
              gi_wp2_with (refine ⟨trivial, (fun h => (by cases h)), ?_⟩; refine (CallsIn.inRound _ (callsIn_wide.2 LESSC)).mono ?_; rintro e w4 ⟨rfl, hb4⟩)
              clear cl0 cl1 ch0 ch1 cv0 cv1 cf0 ql qh qv qf
              replace ZL := Lib.hid ((hb4.block _ (Array.getElem?_eq_some_iff.1 ZL.out).1).trans ZL.out)
              replace ZH := Lib.hid ((hb4.block _ (Array.getElem?_eq_some_iff.1 ZH.out).1).trans ZH.out)
              replace ZV := Lib.hid ((hb4.block _ (Array.getElem?_eq_some_iff.1 ZV.out).1).trans ZV.out)
              replace ZF := Lib.hid ((hb4.block _ (Array.getElem?_eq_some_iff.1 ZF.out).1).trans ZF.out)
              replace ZR := Lib.hid ((hb4.block _ (Array.getElem?_eq_some_iff.1 ZR.out).1).trans ZR.out)
              replace KP := Lib.hid (KP.out.trans (Keep2.of hb4))
              clear hb4
              obtain ⟨W11, hW11⟩ : ∃ W9, w4 = W9 := ⟨_, rfl⟩
              subst hW11
              refine ⟨_, _, run_endRound none ZR.out, ⟨rfl, ?_, ?_⟩⟩
              · simp only [Option.isNone_none, if_true]
                rw [loop_again r1 r2]
                have KR := keep_round HLV.out (by rw [HWB.out]; exact KP.out)
                exact ⟨HJ.out.keep.trans KR, by rw [World.putObj_heap_other (by omega), ZL.out, EL.out, NL.out], by rw [World.putObj_heap_other (by omega), ZH.out, EH.out, NH.out]⟩
              · simp only [Option.isNone_none, if_true]
                rw [loop_again r1 r2]
                exact keep_round HLV.out (by rw [HWB.out]; exact KP.out)
            | true =>
              rw [hc] at LESSC
              have NH := Lib.hid (show highS ⟨vn, vd⟩ ⟨hn, hd⟩ = ⟨vn, vd⟩ from if_pos (.inr hc))
              clear hc
              have cl0 : W30.cell? ⟨w.heap.size + 1 + 1 + 1 + 1, 0, none⟩ = some (.int .i64 ln) := cell_of_block ZL.out 0 (by simp)
              have cl1 : W30.cell? ⟨w.heap.size + 1 + 1 + 1 + 1, 1, none⟩ = some (.int .i64 ld) := cell_of_block ZL.out 1 (by simp)
              have ch0 : W30.cell? ⟨w.heap.size + 1 + 1 + 1 + 1 + 1, 0, none⟩ = some (.int .i64 hn) := cell_of_block ZH.out 0 (by simp)
              have ch1 : W30.cell? ⟨w.heap.size + 1 + 1 + 1 + 1 + 1, 1, none⟩ = some (.int .i64 hd) := cell_of_block ZH.out 1 (by simp)
              have cv0 : W30.cell? ⟨bv, 0, none⟩ = some (.int .i64 vn) := cell_of_block ZV.out 0 (by simp)
              have cv1 : W30.cell? ⟨bv, 1, none⟩ = some (.int .i64 vd) := cell_of_block ZV.out 1 (by simp)
              have cf0 : W30.cell? ⟨w.heap.size + 6, 0, none⟩ = some (.func (.func 72) #[] #[]) := cell_of_block ZF.out 0 (by simp)
              have ql := (Array.getElem?_eq_some_iff.1 ZL.out).1
              have qh := (Array.getElem?_eq_some_iff.1 ZH.out).1
              have qv := (Array.getElem?_eq_some_iff.1 ZV.out).1
              have qf := (Array.getElem?_eq_some_iff.1 ZF.out).1
              gi_upto_region 9 with (refine ⟨trivial, (fun h => (by cases h)), ?_⟩; refine (CallsIn.inRound _ (callsIn_wide.2 LESSC)).mono ?_; rintro e w4 ⟨rfl, hb4⟩)
              clear cl0 cl1 ch0 ch1 cv0 cv1 cf0 ql qh qv qf
              replace ZL := Lib.hid ((hb4.block _ (Array.getElem?_eq_some_iff.1 ZL.out).1).trans ZL.out)
              replace ZH := Lib.hid ((hb4.block _ (Array.getElem?_eq_some_iff.1 ZH.out).1).trans ZH.out)
              replace ZV := Lib.hid ((hb4.block _ (Array.getElem?_eq_some_iff.1 ZV.out).1).trans ZV.out)
              replace ZF := Lib.hid ((hb4.block _ (Array.getElem?_eq_some_iff.1 ZF.out).1).trans ZF.out)
              replace ZR := Lib.hid ((hb4.block _ (Array.getElem?_eq_some_iff.1 ZR.out).1).trans ZR.out)
              replace KP := Lib.hid (KP.out.trans (Keep2.of hb4))
              clear hb4
              obtain ⟨W12, hW12⟩ : ∃ W9, w4 = W9 := ⟨_, rfl⟩
              subst hW12
              have cl0 : w4.cell? ⟨w.heap.size + 1 + 1 + 1 + 1, 0, none⟩ = some (.int .i64 ln) := cell_of_block ZL.out 0 (by simp)
              have cl1 : w4.cell? ⟨w.heap.size + 1 + 1 + 1 + 1, 1, none⟩ = some (.int .i64 ld) := cell_of_block ZL.out 1 (by simp)
              have ch0 : w4.cell? ⟨w.heap.size + 1 + 1 + 1 + 1 + 1, 0, none⟩ = some (.int .i64 hn) := cell_of_block ZH.out 0 (by simp)
              have ch1 : w4.cell? ⟨w.heap.size + 1 + 1 + 1 + 1 + 1, 1, none⟩ = some (.int .i64 hd) := cell_of_block ZH.out 1 (by simp)
              have cv0 : w4.cell? ⟨bv, 0, none⟩ = some (.int .i64 vn) := cell_of_block ZV.out 0 (by simp)
              have cv1 : w4.cell? ⟨bv, 1, none⟩ = some (.int .i64 vd) := cell_of_block ZV.out 1 (by simp)
              have cf0 : w4.cell? ⟨w.heap.size + 6, 0, none⟩ = some (.func (.func 72) #[] #[]) := cell_of_block ZF.out 0 (by simp)
              have ql := (Array.getElem?_eq_some_iff.1 ZL.out).1
              have qh := (Array.getElem?_eq_some_iff.1 ZH.out).1
              have qv := (Array.getElem?_eq_some_iff.1 ZV.out).1
              have qf := (Array.getElem?_eq_some_iff.1 ZF.out).1
              have fz0 := frozen_of_block ZH.out 0
              have fz1 := frozen_of_block ZH.out 1
              gi_wp2_with fail
              clear cl0 cl1 ch0 ch1 cv0 cv1 cf0 ql qh qv qf
              clear fz0 fz1
              obtain ⟨W13, hW13⟩ : ∃ W9, (w4.setCell ⟨w.heap.size + 1 + 1 + 1 + 1 + 1, 0, none⟩ (.int .i64 vn)).setCell ⟨w.heap.size + 1 + 1 + 1 + 1 + 1, 1, none⟩ (.int .i64 vd) = W9 := ⟨_, rfl⟩
              replace ZL := Lib.hid ((set2_other (W := w4) (B := w.heap.size + 1 + 1 + 1 + 1 + 1) (by omega) (.int .i64 vn) (.int .i64 vd)).trans ZL.out)
              replace ZH := Lib.hid (block_set2 ZH.out (.int .i64 vn) (.int .i64 vd))
              replace ZV := Lib.hid ((set2_other (W := w4) (B := w.heap.size + 1 + 1 + 1 + 1 + 1) (by omega) (.int .i64 vn) (.int .i64 vd)).trans ZV.out)
              replace ZF := Lib.hid ((set2_other (W := w4) (B := w.heap.size + 1 + 1 + 1 + 1 + 1) (by omega) (.int .i64 vn) (.int .i64 vd)).trans ZF.out)
              replace ZR := Lib.hid ((set2_other (W := w4) (B := w.heap.size + 1 + 1 + 1 + 1 + 1) (by omega) (.int .i64 vn) (.int .i64 vd)).trans ZR.out)
              replace KP := Lib.hid (keep_set (k := 1) (v := .int .i64 vd) (keep_set (k := 0) (v := .int .i64 vn) KP.out (b := w.heap.size + 1 + 1 + 1 + 1 + 1) (by omega)) (b := w.heap.size + 1 + 1 + 1 + 1 + 1) (by omega))
              rw [hW13] at ZL ZH ZV ZF ZR KP ⊢
              clear hW13
              refine ⟨_, _, run_endRound none ZR.out, ⟨rfl, ?_, ?_⟩⟩
              · simp only [Option.isNone_none, if_true]
                rw [loop_again r1 r2]
                have KR := keep_round HLV.out (by rw [HWB.out]; exact KP.out)
                exact ⟨HJ.out.keep.trans KR, by rw [World.putObj_heap_other (by omega), ZL.out, EL.out, NL.out], by rw [World.putObj_heap_other (by omega), ZH.out, EH.out, NH.out]⟩
              · simp only [Option.isNone_none, if_true]
                rw [loop_again r1 r2]
                exact keep_round HLV.out (by rw [HWB.out]; exact KP.out)
        | true =>
          rw [hc] at LESSC
          have NL := Lib.hid (show lowS ⟨vn, vd⟩ ⟨ln, ld⟩ = ⟨vn, vd⟩ from if_pos (.inr hc))
          clear hc
          have cl0 : W3.cell? ⟨w.heap.size + 1 + 1 + 1 + 1, 0, none⟩ = some (.int .i64 ln) := cell_of_block ZL.out 0 (by simp)
          have cl1 : W3.cell? ⟨w.heap.size + 1 + 1 + 1 + 1, 1, none⟩ = some (.int .i64 ld) := cell_of_block ZL.out 1 (by simp)
          have ch0 : W3.cell? ⟨w.heap.size + 1 + 1 + 1 + 1 + 1, 0, none⟩ = some (.int .i64 hn) := cell_of_block ZH.out 0 (by simp)
          have ch1 : W3.cell? ⟨w.heap.size + 1 + 1 + 1 + 1 + 1, 1, none⟩ = some (.int .i64 hd) := cell_of_block ZH.out 1 (by simp)
          have cv0 : W3.cell? ⟨bv, 0, none⟩ = some (.int .i64 vn) := cell_of_block ZV.out 0 (by simp)
          have cv1 : W3.cell? ⟨bv, 1, none⟩ = some (.int .i64 vd) := cell_of_block ZV.out 1 (by simp)
          have cf0 : W3.cell? ⟨w.heap.size + 6, 0, none⟩ = some (.func (.func 72) #[] #[]) := cell_of_block ZF.out 0 (by simp)
          have ql := (Array.getElem?_eq_some_iff.1 ZL.out).1
          have qh := (Array.getElem?_eq_some_iff.1 ZH.out).1
          have qv := (Array.getElem?_eq_some_iff.1 ZV.out).1
          have qf := (Array.getElem?_eq_some_iff.1 ZF.out).1
          gi_upto_region 7 with (refine ⟨trivial, (fun h => (by cases h)), ?_⟩; refine (CallsIn.inRound _ (callsIn_wide.2 LESSC)).mono ?_; rintro e w4 ⟨rfl, hb4⟩)
          clear cl0 cl1 ch0 ch1 cv0 cv1 cf0 ql qh qv qf
          replace ZL := Lib.hid ((hb4.block _ (Array.getElem?_eq_some_iff.1 ZL.out).1).trans ZL.out)
          replace ZH := Lib.hid ((hb4.block _ (Array.getElem?_eq_some_iff.1 ZH.out).1).trans ZH.out)
          replace ZV := Lib.hid ((hb4.block _ (Array.getElem?_eq_some_iff.1 ZV.out).1).trans ZV.out)
          replace ZF := Lib.hid ((hb4.block _ (Array.getElem?_eq_some_iff.1 ZF.out).1).trans ZF.out)
          replace ZR := Lib.hid ((hb4.block _ (Array.getElem?_eq_some_iff.1 ZR.out).1).trans ZR.out)
          replace KP := Lib.hid (KP.out.trans (Keep2.of hb4))
          clear hb4
          obtain ⟨W14, hW14⟩ : ∃ W9, w4 = W9 := ⟨_, rfl⟩
          subst hW14
          clear LESSC ne0
          obtain ⟨W30, h30⟩ : ∃ W9, w4 = W9 := ⟨_, rfl⟩
          rw [h30] at ZL ZH ZV ZF ZR KP ⊢
          clear h30 w4
          have cl0 : W30.cell? ⟨w.heap.size + 1 + 1 + 1 + 1, 0, none⟩ = some (.int .i64 ln) := cell_of_block ZL.out 0 (by simp)
          have cl1 : W30.cell? ⟨w.heap.size + 1 + 1 + 1 + 1, 1, none⟩ = some (.int .i64 ld) := cell_of_block ZL.out 1 (by simp)
          have ch0 : W30.cell? ⟨w.heap.size + 1 + 1 + 1 + 1 + 1, 0, none⟩ = some (.int .i64 hn) := cell_of_block ZH.out 0 (by simp)
          have ch1 : W30.cell? ⟨w.heap.size + 1 + 1 + 1 + 1 + 1, 1, none⟩ = some (.int .i64 hd) := cell_of_block ZH.out 1 (by simp)
          have cv0 : W30.cell? ⟨bv, 0, none⟩ = some (.int .i64 vn) := cell_of_block ZV.out 0 (by simp)
          have cv1 : W30.cell? ⟨bv, 1, none⟩ = some (.int .i64 vd) := cell_of_block ZV.out 1 (by simp)
          have cf0 : W30.cell? ⟨w.heap.size + 6, 0, none⟩ = some (.func (.func 72) #[] #[]) := cell_of_block ZF.out 0 (by simp)
          have ql := (Array.getElem?_eq_some_iff.1 ZL.out).1
          have qh := (Array.getElem?_eq_some_iff.1 ZH.out).1
          have qv := (Array.getElem?_eq_some_iff.1 ZV.out).1
          have qf := (Array.getElem?_eq_some_iff.1 ZF.out).1
          have fz0 := frozen_of_block ZL.out 0
          have fz1 := frozen_of_block ZL.out 1
          gi_upto_region 8 with (fail)
          clear cl0 cl1 ch0 ch1 cv0 cv1 cf0 ql qh qv qf
          clear fz0 fz1
          obtain ⟨W15, hW15⟩ : ∃ W9, (W30.setCell ⟨w.heap.size + 1 + 1 + 1 + 1, 0, none⟩ (.int .i64 vn)).setCell ⟨w.heap.size + 1 + 1 + 1 + 1, 1, none⟩ (.int .i64 vd) = W9 := ⟨_, rfl⟩
          replace ZL := Lib.hid (block_set2 ZL.out (.int .i64 vn) (.int .i64 vd))
          replace ZH := Lib.hid ((set2_other (W := W30) (B := w.heap.size + 1 + 1 + 1 + 1) (by omega) (.int .i64 vn) (.int .i64 vd)).trans ZH.out)
          replace ZV := Lib.hid ((set2_other (W := W30) (B := w.heap.size + 1 + 1 + 1 + 1) (by omega) (.int .i64 vn) (.int .i64 vd)).trans ZV.out)
          replace ZF := Lib.hid ((set2_other (W := W30) (B := w.heap.size + 1 + 1 + 1 + 1) (by omega) (.int .i64 vn) (.int .i64 vd)).trans ZF.out)
          replace ZR := Lib.hid ((set2_other (W := W30) (B := w.heap.size + 1 + 1 + 1 + 1) (by omega) (.int .i64 vn) (.int .i64 vd)).trans ZR.out)
          replace KP := Lib.hid (keep_set (k := 1) (v := .int .i64 vd) (keep_set (k := 0) (v := .int .i64 vn) KP.out (b := w.heap.size + 1 + 1 + 1 + 1) (by omega)) (b := w.heap.size + 1 + 1 + 1 + 1) (by omega))
          rw [hW15] at ZL ZH ZV ZF ZR KP ⊢
          clear hW15
          rcases HFH.out with ⟨e0, -⟩ | ⟨-, FH⟩
          · obtain rfl : hd = 0 := e0
            have NH := Lib.hid (show highS ⟨vn, vd⟩ ⟨hn, 0⟩ = ⟨vn, vd⟩ from if_pos (.inl rfl))
            have cl0 : W15.cell? ⟨w.heap.size + 1 + 1 + 1 + 1, 0, none⟩ = some (.int .i64 vn) := cell_of_block ZL.out 0 (by simp)
            have cl1 : W15.cell? ⟨w.heap.size + 1 + 1 + 1 + 1, 1, none⟩ = some (.int .i64 vd) := cell_of_block ZL.out 1 (by simp)
            have ch0 : W15.cell? ⟨w.heap.size + 1 + 1 + 1 + 1 + 1, 0, none⟩ = some (.int .i64 hn) := cell_of_block ZH.out 0 (by simp)
            have ch1 : W15.cell? ⟨w.heap.size + 1 + 1 + 1 + 1 + 1, 1, none⟩ = some (.int .i64 0) := cell_of_block ZH.out 1 (by simp)
            have cv0 : W15.cell? ⟨bv, 0, none⟩ = some (.int .i64 vn) := cell_of_block ZV.out 0 (by simp)
            have cv1 : W15.cell? ⟨bv, 1, none⟩ = some (.int .i64 vd) := cell_of_block ZV.out 1 (by simp)
            have cf0 : W15.cell? ⟨w.heap.size + 6, 0, none⟩ = some (.func (.func 72) #[] #[]) := cell_of_block ZF.out 0 (by simp)
            have ql := (Array.getElem?_eq_some_iff.1 ZL.out).1
            have qh := (Array.getElem?_eq_some_iff.1 ZH.out).1
            have qv := (Array.getElem?_eq_some_iff.1 ZV.out).1
            have qf := (Array.getElem?_eq_some_iff.1 ZF.out).1
            have fz0 := frozen_of_block ZH.out 0
            have fz1 := frozen_of_block ZH.out 1
            gi_upto_region 10 with (fail)
            refine ⟨fun f h => (by cases h), ?_⟩
            rename_i aK q1 q2 q3 q4
            refine aK _ _ ?_
            clear q4 q3 q2 q1
            gi_wp2_with fail
            clear cl0 cl1 ch0 ch1 cv0 cv1 cf0 ql qh qv qf
            clear fz0 fz1
            obtain ⟨W16, hW16⟩ : ∃ W9, (W15.setCell ⟨w.heap.size + 1 + 1 + 1 + 1 + 1, 0, none⟩ (.int .i64 vn)).setCell ⟨w.heap.size + 1 + 1 + 1 + 1 + 1, 1, none⟩ (.int .i64 vd) = W9 := ⟨_, rfl⟩
            replace ZL := Lib.hid ((set2_other (W := W15) (B := w.heap.size + 1 + 1 + 1 + 1 + 1) (by omega) (.int .i64 vn) (.int .i64 vd)).trans ZL.out)
            replace ZH := Lib.hid (block_set2 ZH.out (.int .i64 vn) (.int .i64 vd))
            replace ZV := Lib.hid ((set2_other (W := W15) (B := w.heap.size + 1 + 1 + 1 + 1 + 1) (by omega) (.int .i64 vn) (.int .i64 vd)).trans ZV.out)
            replace ZF := Lib.hid ((set2_other (W := W15) (B := w.heap.size + 1 + 1 + 1 + 1 + 1) (by omega) (.int .i64 vn) (.int .i64 vd)).trans ZF.out)
            replace ZR := Lib.hid ((set2_other (W := W15) (B := w.heap.size + 1 + 1 + 1 + 1 + 1) (by omega) (.int .i64 vn) (.int .i64 vd)).trans ZR.out)
            replace KP := Lib.hid (keep_set (k := 1) (v := .int .i64 vd) (keep_set (k := 0) (v := .int .i64 vn) KP.out (b := w.heap.size + 1 + 1 + 1 + 1 + 1) (by omega)) (b := w.heap.size + 1 + 1 + 1 + 1 + 1) (by omega))
            rw [hW16] at ZL ZH ZV ZF ZR KP ⊢
            clear hW16
            refine ⟨_, _, run_endRound none ZR.out, ⟨rfl, ?_, ?_⟩⟩
            · simp only [Option.isNone_none, if_true]
              rw [loop_again r1 r2]
              have KR := keep_round HLV.out (by rw [HWB.out]; exact KP.out)
              exact ⟨HJ.out.keep.trans KR, by rw [World.putObj_heap_other (by omega), ZL.out, EL.out, NL.out], by rw [World.putObj_heap_other (by omega), ZH.out, EH.out, NH.out]⟩
            · simp only [Option.isNone_none, if_true]
              rw [loop_again r1 r2]
              exact keep_round HLV.out (by rw [HWB.out]; exact KP.out)
          · have FH1 := FH.d1
            dsimp only at FH1
            have ne0 : (hd == 0) = false := by simp; omega
            have LESSC := less_any ⟨hn, hd⟩ ⟨vn, vd⟩ W15 FH HFP.out
            clear FH FH1
            dsimp only at LESSC
            cases hc : ltF ⟨hn, hd⟩ ⟨vn, vd⟩ with
            | false =>
              rw [hc] at LESSC
              have NH := Lib.hid (show highS ⟨vn, vd⟩ ⟨hn, hd⟩ = ⟨hn, hd⟩ from if_neg (by rw [hc]; simp only [Bool.false_eq_true, or_false]; intro h; simp at ne0; exact ne0 h))
              clear hc
              have cl0 : W15.cell? ⟨w.heap.size + 1 + 1 + 1 + 1, 0, none⟩ = some (.int .i64 vn) := cell_of_block ZL.out 0 (by simp)
              have cl1 : W15.cell? ⟨w.heap.size + 1 + 1 + 1 + 1, 1, none⟩ = some (.int .i64 vd) := cell_of_block ZL.out 1 (by simp)
              have ch0 : W15.cell? ⟨w.heap.size + 1 + 1 + 1 + 1 + 1, 0, none⟩ = some (.int .i64 hn) := cell_of_block ZH.out 0 (by simp)
              have ch1 : W15.cell? ⟨w.heap.size + 1 + 1 + 1 + 1 + 1, 1, none⟩ = some (.int .i64 hd) := cell_of_block ZH.out 1 (by simp)
              have cv0 : W15.cell? ⟨bv, 0, none⟩ = some (.int .i64 vn) := cell_of_block ZV.out 0 (by simp)
              have cv1 : W15.cell? ⟨bv, 1, none⟩ = some (.int .i64 vd) := cell_of_block ZV.out 1 (by simp)
              have cf0 : W15.cell? ⟨w.heap.size + 6, 0, none⟩ = some (.func (.func 72) #[] #[]) := cell_of_block ZF.out 0 (by simp)
              have ql := (Array.getElem?_eq_some_iff.1 ZL.out).1
              have qh := (Array.getElem?_eq_some_iff.1 ZH.out).1
              have qv := (Array.getElem?_eq_some_iff.1 ZV.out).1
              have qf := (Array.getElem?_eq_some_iff.1 ZF.out).1
              gi_wp2_with (refine ⟨trivial, (fun h => (by cases h)), ?_⟩; refine (CallsIn.inRound _ (callsIn_wide.2 LESSC)).mono ?_; rintro e w4 ⟨rfl, hb4⟩)
              clear cl0 cl1 ch0 ch1 cv0 cv1 cf0 ql qh qv qf
              replace ZL := Lib.hid ((hb4.block _ (Array.getElem?_eq_some_iff.1 ZL.out).1).trans ZL.out)
              replace ZH := Lib.hid ((hb4.block _ (Array.getElem?_eq_some_iff.1 ZH.out).1).trans ZH.out)
              replace ZV := Lib.hid ((hb4.block _ (Array.getElem?_eq_some_iff.1 ZV.out).1).trans ZV.out)
              replace ZF := Lib.hid ((hb4.block _ (Array.getElem?_eq_some_iff.1 ZF.out).1).trans ZF.out)
              replace ZR := Lib.hid ((hb4.block _ (Array.getElem?_eq_some_iff.1 ZR.out).1).trans ZR.out)
              replace KP := Lib.hid (KP.out.trans (Keep2.of hb4))
              clear hb4
              obtain ⟨W17, hW17⟩ : ∃ W9, w4 = W9 := ⟨_, rfl⟩
              subst hW17
              refine ⟨_, _, run_endRound none ZR.out, ⟨rfl, ?_, ?_⟩⟩
              · simp only [Option.isNone_none, if_true]
                rw [loop_again r1 r2]
                have KR := keep_round HLV.out (by rw [HWB.out]; exact KP.out)
                exact ⟨HJ.out.keep.trans KR, by rw [World.putObj_heap_other (by omega), ZL.out, EL.out, NL.out], by rw [World.putObj_heap_other (by omega), ZH.out, EH.out, NH.out]⟩
              · simp only [Option.isNone_none, if_true]
                rw [loop_again r1 r2]
                exact keep_round HLV.out (by rw [HWB.out]; exact KP.out)
            | true =>
              rw [hc] at LESSC
              have NH := Lib.hid (show highS ⟨vn, vd⟩ ⟨hn, hd⟩ = ⟨vn, vd⟩ from if_pos (.inr hc))
              clear hc
              have cl0 : W15.cell? ⟨w.heap.size + 1 + 1 + 1 + 1, 0, none⟩ = some (.int .i64 vn) := cell_of_block ZL.out 0 (by simp)
              have cl1 : W15.cell? ⟨w.heap.size + 1 + 1 + 1 + 1, 1, none⟩ = some (.int .i64 vd) := cell_of_block ZL.out 1 (by simp)
              have ch0 : W15.cell? ⟨w.heap.size + 1 + 1 + 1 + 1 + 1, 0, none⟩ = some (.int .i64 hn) := cell_of_block ZH.out 0 (by simp)
              have ch1 : W15.cell? ⟨w.heap.size + 1 + 1 + 1 + 1 + 1, 1, none⟩ = some (.int .i64 hd) := cell_of_block ZH.out 1 (by simp)
              have cv0 : W15.cell? ⟨bv, 0, none⟩ = some (.int .i64 vn) := cell_of_block ZV.out 0 (by simp)
              have cv1 : W15.cell? ⟨bv, 1, none⟩ = some (.int .i64 vd) := cell_of_block ZV.out 1 (by simp)
              have cf0 : W15.cell? ⟨w.heap.size + 6, 0, none⟩ = some (.func (.func 72) #[] #[]) := cell_of_block ZF.out 0 (by simp)
              have ql := (Array.getElem?_eq_some_iff.1 ZL.out).1
              have qh := (Array.getElem?_eq_some_iff.1 ZH.out).1
              have qv := (Array.getElem?_eq_some_iff.1 ZV.out).1
              have qf := (Array.getElem?_eq_some_iff.1 ZF.out).1
              gi_upto_region 9 with (refine ⟨trivial, (fun h => (by cases h)), ?_⟩; refine (CallsIn.inRound _ (callsIn_wide.2 LESSC)).mono ?_; rintro e w4 ⟨rfl, hb4⟩)
              clear cl0 cl1 ch0 ch1 cv0 cv1 cf0 ql qh qv qf
              replace ZL := Lib.hid ((hb4.block _ (Array.getElem?_eq_some_iff.1 ZL.out).1).trans ZL.out)
              replace ZH := Lib.hid ((hb4.block _ (Array.getElem?_eq_some_iff.1 ZH.out).1).trans ZH.out)
              replace ZV := Lib.hid ((hb4.block _ (Array.getElem?_eq_some_iff.1 ZV.out).1).trans ZV.out)
              replace ZF := Lib.hid ((hb4.block _ (Array.getElem?_eq_some_iff.1 ZF.out).1).trans ZF.out)
              replace ZR := Lib.hid ((hb4.block _ (Array.getElem?_eq_some_iff.1 ZR.out).1).trans ZR.out)
              replace KP := Lib.hid (KP.out.trans (Keep2.of hb4))
              clear hb4
              obtain ⟨W18, hW18⟩ : ∃ W9, w4 = W9 := ⟨_, rfl⟩
              subst hW18
              have cl0 : w4.cell? ⟨w.heap.size + 1 + 1 + 1 + 1, 0, none⟩ = some (.int .i64 vn) := cell_of_block ZL.out 0 (by simp)
              have cl1 : w4.cell? ⟨w.heap.size + 1 + 1 + 1 + 1, 1, none⟩ = some (.int .i64 vd) := cell_of_block ZL.out 1 (by simp)
              have ch0 : w4.cell? ⟨w.heap.size + 1 + 1 + 1 + 1 + 1, 0, none⟩ = some (.int .i64 hn) := cell_of_block ZH.out 0 (by simp)
              have ch1 : w4.cell? ⟨w.heap.size + 1 + 1 + 1 + 1 + 1, 1, none⟩ = some (.int .i64 hd) := cell_of_block ZH.out 1 (by simp)
              have cv0 : w4.cell? ⟨bv, 0, none⟩ = some (.int .i64 vn) := cell_of_block ZV.out 0 (by simp)
              have cv1 : w4.cell? ⟨bv, 1, none⟩ = some (.int .i64 vd) := cell_of_block ZV.out 1 (by simp)
              have cf0 : w4.cell? ⟨w.heap.size + 6, 0, none⟩ = some (.func (.func 72) #[] #[]) := cell_of_block ZF.out 0 (by simp)
              have ql := (Array.getElem?_eq_some_iff.1 ZL.out).1
              have qh := (Array.getElem?_eq_some_iff.1 ZH.out).1
              have qv := (Array.getElem?_eq_some_iff.1 ZV.out).1
              have qf := (Array.getElem?_eq_some_iff.1 ZF.out).1
              have fz0 := frozen_of_block ZH.out 0
              have fz1 := frozen_of_block ZH.out 1
              gi_wp2_with fail
              clear cl0 cl1 ch0 ch1 cv0 cv1 cf0 ql qh qv qf
              clear fz0 fz1
              obtain ⟨W19, hW19⟩ : ∃ W9, (w4.setCell ⟨w.heap.size + 1 + 1 + 1 + 1 + 1, 0, none⟩ (.int .i64 vn)).setCell ⟨w.heap.size + 1 + 1 + 1 + 1 + 1, 1, none⟩ (.int .i64 vd) = W9 := ⟨_, rfl⟩
              replace ZL := Lib.hid ((set2_other (W := w4) (B := w.heap.size + 1 + 1 + 1 + 1 + 1) (by omega) (.int .i64 vn) (.int .i64 vd)).trans ZL.out)
              replace ZH := Lib.hid (block_set2 ZH.out (.int .i64 vn) (.int .i64 vd))
              replace ZV := Lib.hid ((set2_other (W := w4) (B := w.heap.size + 1 + 1 + 1 + 1 + 1) (by omega) (.int .i64 vn) (.int .i64 vd)).trans ZV.out)
              replace ZF := Lib.hid ((set2_other (W := w4) (B := w.heap.size + 1 + 1 + 1 + 1 + 1) (by omega) (.int .i64 vn) (.int .i64 vd)).trans ZF.out)
              replace ZR := Lib.hid ((set2_other (W := w4) (B := w.heap.size + 1 + 1 + 1 + 1 + 1) (by omega) (.int .i64 vn) (.int .i64 vd)).trans ZR.out)
              replace KP := Lib.hid (keep_set (k := 1) (v := .int .i64 vd) (keep_set (k := 0) (v := .int .i64 vn) KP.out (b := w.heap.size + 1 + 1 + 1 + 1 + 1) (by omega)) (b := w.heap.size + 1 + 1 + 1 + 1 + 1) (by omega))
              rw [hW19] at ZL ZH ZV ZF ZR KP ⊢
              clear hW19
              refine ⟨_, _, run_endRound none ZR.out, ⟨rfl, ?_, ?_⟩⟩
              · simp only [Option.isNone_none, if_true]
                rw [loop_again r1 r2]
                have KR := keep_round HLV.out (by rw [HWB.out]; exact KP.out)
                exact ⟨HJ.out.keep.trans KR, by rw [World.putObj_heap_other (by omega), ZL.out, EL.out, NL.out], by rw [World.putObj_heap_other (by omega), ZH.out, EH.out, NH.out]⟩
              · simp only [Option.isNone_none, if_true]
                rw [loop_again r1 r2]
                exact keep_round HLV.out (by rw [HWB.out]; exact KP.out)
  case ret =>
    rintro rec v W r1 r2 ⟨-, hJ⟩
    have LX := SZ.out
    have ld0 : ((W0.alloc (.deferred (some []))).alloc (.loop rec)).heap[W0.heap.size]? = some (.deferred (some [])) := alloc_keep (alloc_at rfl)
    have ll0 : ((W0.alloc (.deferred (some []))).alloc (.loop rec)).heap[W0.heap.size + 1]? = some (.loop rec) := alloc_at (by simp)
    have hBi : Below W0.heap.size W0 ((W0.alloc (.deferred (some []))).alloc (.loop rec)) := (below_alloc _ _).alloc (by simp) _
    have kd := (hJ.keep.block _ (Array.getElem?_eq_some_iff.1 ld0).1 (by omega) (by omega)).trans ld0
    have kl := (hJ.keep.block _ (Array.getElem?_eq_some_iff.1 ll0).1 (by omega) (by omega)).trans ll0
    have lowW : Below w.heap.size w W := hJ.keep.low (BW.out.trans (hBi.mono BW.out.size)) (Nat.le_trans BW.out.size hBi.size) (by omega) (by omega)
    have szW := hJ.keep.size
    have szi := hBi.size
    have klo := hJ.lo
    have khi := hJ.hi
    generalize (W0.alloc (.deferred (some []))).alloc (.loop rec) = Wi at *
    refine ⟨rec, kl, by rw [r1]; simp, ?_⟩
    rw [r2]
    obtain ⟨W5, hW5⟩ : ∃ W5, W.putObj (W0.heap.size + 1) (.loop { rec with state := .exhausted }) = W5 := ⟨_, rfl⟩
    have hg5 : W.grownBy W5 (some (W0.heap.size + 1)) := by rw [← hW5]; exact grownBy_putObj' _ _ _
    have same : ∀ (B : Nat) (o : Obj), W.heap[B]? = some o → B ≠ W0.heap.size + 1 → W5.heap[B]? = some o := fun B o ho hB => (hg5.block B (Array.getElem?_eq_some_iff.1 ho).1 (by simpa using hB)).trans ho
    have hr2 : ({ rec with state := .exhausted, pending := none } : Loop) = { rec with state := .exhausted } := by rw [← r2]
    simp only [← r2] at *
    rw [hW5]
    have kx := same _ _ klo (by omega)
    have ky := same _ _ khi (by omega)
    have kz := same _ _ kd (by omega)
    have low5 : Below w.heap.size w W5 := lowW.grown hg5 lowW.size (fun k e => by cases e; omega)
    obtain ⟨lo, hlo⟩ : ∃ v, lowN f (t.nc slo shi tlo thi) = v := ⟨_, rfl⟩
    obtain ⟨hi, hhi⟩ : ∃ v, highN f (t.nc slo shi tlo thi) = v := ⟨_, rfl⟩
    rw [hlo] at kx
    rw [hhi] at ky
    have HLO := Lib.hid hlo; have HHI := Lib.hid hhi
    clear klo khi hJ hlo hhi kd kl ld0 ll0 hBi lowW same hg5 hr2 hW5
    have sz5 : w.heap.size + 11 ≤ W5.heap.size := by have := (Array.getElem?_eq_some_iff.1 kz).1; omega
    have x0 : W5.cell? ⟨w.heap.size + 1 + 1 + 1 + 1, 0, none⟩ = some (.int .i64 lo.n) := cell_of_block kx 0 (by simp)
    have x1 : W5.cell? ⟨w.heap.size + 1 + 1 + 1 + 1, 1, none⟩ = some (.int .i64 lo.d) := cell_of_block kx 1 (by simp)
    have y0 : W5.cell? ⟨w.heap.size + 1 + 1 + 1 + 1 + 1, 0, none⟩ = some (.int .i64 hi.n) := cell_of_block ky 0 (by simp)
    have y1 : W5.cell? ⟨w.heap.size + 1 + 1 + 1 + 1 + 1, 1, none⟩ = some (.int .i64 hi.d) := cell_of_block ky 1 (by simp)
    have f0 := frozen_of_block kx 0
    have f1 := frozen_of_block kx 1
    have g0 := frozen_of_block ky 0
    have g1 := frozen_of_block ky 1
    have KX := Lib.hid kx; have KY := Lib.hid ky; have KZ := Lib.hid kz; have LOW5 := Lib.hid low5
    clear kx ky kz low5
    gi_wp2_with fail
    go_upto_region 10 with (fail)
    go_region
    all_goals go_wp2_with fail
    rw [setCell_self x0, setCell_self x1, setCell_self y0, setCell_self y1]
    have LX2 := SZ.out
    have xd : W5.drew.heap[W0.heap.size]? = some (.deferred (some [])) := KZ.out
    unfold bodyPostM
    refine ⟨by simp, .inl ⟨W0.heap.size, _, rfl, run_takeDeferred xd, ?_⟩⟩
    have zx : (W5.drew.putObj W0.heap.size (.deferred none)).heap[w.heap.size + 1 + 1 + 1 + 1]? = _ := (World.putObj_heap_other (by omega)).trans KX.out
    have zy : (W5.drew.putObj W0.heap.size (.deferred none)).heap[w.heap.size + 1 + 1 + 1 + 1 + 1]? = _ := (World.putObj_heap_other (by omega)).trans KY.out
    have b0 := cell_of_block zx 0 (by simp)
    have b1 := cell_of_block zx 1 (by simp)
    have d0 := cell_of_block zy 0 (by simp)
    have d1 := cell_of_block zy 1 (by simp)
    simp only [List.getElem_toArray, List.getElem_cons_zero, List.getElem_cons_succ] at b0 b1 d0 d1
    refine ⟨.tuple #[.agg #[.int .i64 lo.n, .int .i64 lo.d], .agg #[.int .i64 hi.n, .int .i64 hi.d]], by simp [results, Tryz.results52, go_sem, b0, b1, d0, d1], by rw [HLO.out, HHI.out]; rfl, ?_⟩
    exact (LOW5.out.drew).grown (grownBy_putObj' _ _ _) (by show w.heap.size ≤ W5.heap.size; omega) (fun k e => by cases e; omega)

set_option maxHeartbeats 400000 in
theorem ends_any (t : Tab) (g : t.Good) (m : Rows) (bt : Nat) (slo shi tlo thi : Int) (w : World) (hI : t.In w) (hM : t.Rowed m w) (ft : t.tb.FitT tlo thi) (fs : t.tb.FitS slo shi)
    (z0 : w.cell? ⟨bt, 0, none⟩ = some (.slice t.aT t.nT t.cT)) (z1 : w.cell? ⟨bt, 1, none⟩ = some (.slice t.aS t.nS t.cS)) :
    Calls Tryz.prog 52 #[.pointer (some ⟨bt, 0, none⟩), m.val, .agg #[.int .i64 slo, .int .i64 shi], .agg #[.int .i64 tlo, .int .i64 thi]] w fun e w' =>
      e = .returned (.tuple #[(t.low m slo shi tlo thi).val, (t.high m slo shi tlo thi).val]) ∧ Below w.heap.size w w' :=
  callsIn_wide.1 (ends_in 4 t g m bt slo shi tlo thi w hI hM ft fs z0 z1)
end Go.Proofs.YtjgnafhbeekebaaGreat.L1
