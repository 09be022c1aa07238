/- Contract of Rate (reference). No conditions beyond each theorem's own. -/
import Derived.Test.YtecbacbecopbeaaBw
set_option linter.unusedVariables false
set_option linter.unusedSimpArgs false
set_option linter.unusedSectionVars false
set_option linter.constructorNameAsVariable false
namespace Go.Proofs.Ytecbacbecopbeaa
open Go.RowKit

attribute [local go_sem] gw_cell gw_frozen gw_size
attribute [local go_sem ↓] run_minZ run_maxZ

/-- the rates of the ranges from f to l, of the first ones -/
def qLo (A : Nat → Int) (f l : Nat) : Nat → Int
  | 0 => 1000
  | j + 1 => if f ≤ j ∧ j ≤ l then minZ (qLo A f l j) (A j) else qLo A f l j
def qHi (B : Nat → Int) (f l : Nat) : Nat → Int
  | 0 => 0
  | j + 1 => if f ≤ j ∧ j ≤ l then maxZ (qHi B f l j) (B j) else qHi B f l j
theorem qLo_eq {A : Nat → Int} {f l : Nat} (hf : f ≤ l) (h : ∀ i, i ≤ l → A i ≤ 1000) : ∀ j, qLo A f l j = if j ≤ f then 1000 else rLo A f (min j (l + 1) - f)
  | 0 => by rw [if_pos (by omega)]; rfl
  | j + 1 => by
    have ih := qLo_eq hf h j
    unfold qLo
    by_cases c : f ≤ j ∧ j ≤ l
    · rw [if_pos c, if_neg (by omega), ih, show min (j + 1) (l + 1) - f = (j - f) + 1 by omega]
      show _ = minZ (rLo A f (j - f)) (A (f + (j - f)))
      rw [show f + (j - f) = j by omega, minZ_eq, minZ_eq]
      by_cases e : j = f
      · subst e
        have := h j c.2
        rw [if_pos (by omega), show j - j = 0 by omega]
        show _ = min (A j) (A j)
        omega
      · rw [if_neg (by omega), show min j (l + 1) - f = j - f by omega]
    · rw [if_neg c, ih]
      by_cases e : j + 1 ≤ f
      · rw [if_pos (by omega), if_pos e]
      · rw [if_neg (by omega), if_neg e, show min j (l + 1) - f = min (j + 1) (l + 1) - f by omega]
theorem qHi_eq {B : Nat → Int} {f l : Nat} (hf : f ≤ l) (h : ∀ i, i ≤ l → 0 ≤ B i) : ∀ j, qHi B f l j = if j ≤ f then 0 else rHi B f (min j (l + 1) - f)
  | 0 => by rw [if_pos (by omega)]; rfl
  | j + 1 => by
    have ih := qHi_eq hf h j
    unfold qHi
    by_cases c : f ≤ j ∧ j ≤ l
    · rw [if_pos c, if_neg (by omega), ih, show min (j + 1) (l + 1) - f = (j - f) + 1 by omega]
      show _ = maxZ (rHi B f (j - f)) (B (f + (j - f)))
      rw [show f + (j - f) = j by omega, maxZ_eq, maxZ_eq]
      by_cases e : j = f
      · subst e
        have := h j c.2
        rw [if_pos (by omega), show j - j = 0 by omega]
        show _ = max (B j) (B j)
        omega
      · rw [if_neg (by omega), show min j (l + 1) - f = j - f by omega]
    · rw [if_neg c, ih]
      by_cases e : j + 1 ≤ f
      · rw [if_pos (by omega), if_pos e]
      · rw [if_neg (by omega), if_neg e, show min j (l + 1) - f = min (j + 1) (l + 1) - f by omega]
theorem idx_at {T : Nat → Int} {n : Nat} (hT : ∀ i, i + 1 < n → T i < T (i + 1)) (t : Int) (i : Nat) (hi : i < n) : T i ≤ t ↔ i < idx T n t := by
  unfold idx
  constructor
  · intro h
    rcases Nat.lt_or_ge i (lb T (t + 1) n) with h1 | h1
    · exact h1
    · have s := lb_stop T (t + 1) n (by omega)
      have mono := mono_of (n := n) (L := T) (fun i hi => by have := hT i hi; omega)
      have := mono _ _ h1 hi
      omega
  · intro h
    have := lb_lt T (t + 1) n i h
    omega
theorem rate_out {y : Yst} (hB : ystB y = true) {tl th : Int} (ht : tl ≤ th) : qLo y.A (idx y.T y.nT tl) (idx y.T y.nT th) y.nR = y.rl tl th ∧ qHi y.B (idx y.T y.nT tl) (idx y.T y.nT th) y.nR = y.rh tl th := by
  obtain ⟨⟨n16, nR⟩, -, hT, hr, -, -, -⟩ := ystB_t hB
  have f0 := idx_le y.T y.nT th
  have f2 := idx_mono y.T y.nT ht
  rw [qLo_eq f2 (fun i hi => by have := hr i (by omega); omega), qHi_eq f2 (fun i hi => by have := hr i (by omega); omega), if_neg (by omega), if_neg (by omega), show min y.nR (idx y.T y.nT th + 1) = idx y.T y.nT th + 1 by omega]
  exact ⟨rfl, rfl⟩

set_option maxRecDepth 100000 in
set_option maxHeartbeats 8000000 in
theorem rRate_any (y : Yst) (tl th : Int) (w : World) (hI : y.In w) (hf : y.Fits) (hB : ystB y = true) (ht : tl ≤ th) :
    Calls Try.prog 25 #[y.val, .agg #[.int .i64 tl, .int .i64 th]] w fun e w' => e = .returned (.agg #[.int .i64 (y.rl tl th), .int .i64 (y.rh tl th)]) ∧ Below w.heap.size w w' := by
  unfold Yst.val
  obtain ⟨W1, hW1⟩ : ∃ W1, ((w.alloc (.cells #[.slice y.aT y.nT y.cT, .slice y.aR y.nR y.cR, .int .i64 y.sl, .int .i64 y.sh, .int .i64 y.gl, .int .i64 y.gh, .int .i64 y.hl, .int .i64 y.hh] 36)).alloc (.cells #[.int .i64 tl, .int .i64 th] 23)).alloc (.cells #[.int .i64 0, .int .i64 0] 23) = W1 := ⟨_, rfl⟩
  have hBc : Below w.heap.size w W1 := by rw [← hW1]; exact ((below_alloc _ _).alloc (by simp) _).alloc (by simp <;> omega) _
  have zc0 : W1.heap[w.heap.size]? = some (.cells #[.slice y.aT y.nT y.cT, .slice y.aR y.nR y.cR, .int .i64 y.sl, .int .i64 y.sh, .int .i64 y.gl, .int .i64 y.gh, .int .i64 y.hl, .int .i64 y.hh] 36 (0, 0)) := by rw [← hW1]; exact alloc_keep (alloc_keep (alloc_at rfl))
  have zc1 : W1.heap[w.heap.size + 1]? = some (.cells #[.int .i64 tl, .int .i64 th] 23 (0, 0)) := by rw [← hW1]; exact alloc_keep (alloc_at (by simp))
  have zc2 : W1.heap[w.heap.size + 1 + 1]? = some (.cells #[.int .i64 0, .int .i64 0] 23 (0, 0)) := by rw [← hW1]; exact alloc_at (by simp <;> omega)
  have c00 : W1.cell? ⟨w.heap.size, 0, none⟩ = some (.slice y.aT y.nT y.cT) := cell_of_block zc0 0 (by simp)
  have c01 : W1.cell? ⟨w.heap.size, 1, none⟩ = some (.slice y.aR y.nR y.cR) := cell_of_block zc0 1 (by simp)
  have c02 : W1.cell? ⟨w.heap.size, 2, none⟩ = some (.int .i64 y.sl) := cell_of_block zc0 2 (by simp)
  have c03 : W1.cell? ⟨w.heap.size, 3, none⟩ = some (.int .i64 y.sh) := cell_of_block zc0 3 (by simp)
  have c04 : W1.cell? ⟨w.heap.size, 4, none⟩ = some (.int .i64 y.gl) := cell_of_block zc0 4 (by simp)
  have c05 : W1.cell? ⟨w.heap.size, 5, none⟩ = some (.int .i64 y.gh) := cell_of_block zc0 5 (by simp)
  have c06 : W1.cell? ⟨w.heap.size, 6, none⟩ = some (.int .i64 y.hl) := cell_of_block zc0 6 (by simp)
  have c07 : W1.cell? ⟨w.heap.size, 7, none⟩ = some (.int .i64 y.hh) := cell_of_block zc0 7 (by simp)
  have c10 : W1.cell? ⟨w.heap.size + 1, 0, none⟩ = some (.int .i64 tl) := cell_of_block zc1 0 (by simp)
  have c11 : W1.cell? ⟨w.heap.size + 1, 1, none⟩ = some (.int .i64 th) := cell_of_block zc1 1 (by simp)
  have c20 : W1.cell? ⟨w.heap.size + 1 + 1, 0, none⟩ = some (.int .i64 0) := cell_of_block zc2 0 (by simp)
  have c21 : W1.cell? ⟨w.heap.size + 1 + 1, 1, none⟩ = some (.int .i64 0) := cell_of_block zc2 1 (by simp)
  have lc0 := (Array.getElem?_eq_some_iff.1 zc0).1
  have lc1 := (Array.getElem?_eq_some_iff.1 zc1).1
  have lc2 := (Array.getElem?_eq_some_iff.1 zc2).1
  have Zc0 := Lib.hid zc0
  have Zc1 := Lib.hid zc1
  have Zc2 := Lib.hid zc2
  clear zc0 zc1 zc2
  have HBc := Lib.hid hBc; clear hBc
  have HWc := Lib.hid hW1; clear hW1
  obtain ⟨⟨n16, nR⟩, -, hT, -, -, -, -⟩ := ystB_t hB
  have NR := Lib.hid nR; clear nR
  have f0 := idx_le y.T y.nT tl
  have f1 := idx_le y.T y.nT th
  have f2 := idx_mono y.T y.nT ht
  have BE := Lib.hid (fun i (hi : i < y.nT) => idx_at hT tl i hi)
  have AB := Lib.hid (fun i (hi : i < y.nT) => idx_at hT th i hi)
  obtain ⟨e1, e2⟩ := rate_out hB ht
  have E1 := Lib.hid e1; have E2 := Lib.hid e2; clear e1 e2 hT hB ht
  obtain ⟨f, hf1⟩ : ∃ f, idx y.T y.nT tl = f := ⟨_, rfl⟩
  obtain ⟨l, hl1⟩ : ∃ l, idx y.T y.nT th = l := ⟨_, rfl⟩
  rw [hf1] at f0 f2 BE E1 E2
  rw [hl1] at f1 f2 AB E1 E2
  clear hf1 hl1
  have HI := Lib.hid hI; clear hI
  go_enter Try.func25, Try.ntmps25
  go_upto_region 1 with (fail)
  rw [HWc.out]
  go_upto_region 2 with (fail)
  obtain ⟨W2, hW2⟩ : ∃ W2, ((W1)).alloc (.cells #[.int .i64 1000, .int .i64 0] 23) = W2 := ⟨_, rfl⟩
  have hbW2 : Below W1.heap.size W1 W2 := by rw [← hW2]; exact (Below.refl _ W1).alloc (by simp [gw_size]) _
  have ZyW2 := Lib.hid ((hbW2.block _ (Array.getElem?_eq_some_iff.1 Zc0.out).1).trans Zc0.out)
  have ZtW2 := Lib.hid ((hbW2.block _ (Array.getElem?_eq_some_iff.1 Zc1.out).1).trans Zc1.out)
  have ZrW2 := Lib.hid ((hbW2.block _ (Array.getElem?_eq_some_iff.1 Zc2.out).1).trans Zc2.out)
  have zoW2 : W2.heap[W1.heap.size]? = some (.cells #[.int .i64 1000, .int .i64 0] 23 (0, 0)) := by rw [← hW2]; exact alloc_at (by simp [gw_size])
  have ZoW2 := Lib.hid zoW2; clear zoW2
  have HBW2 := Lib.hid (thru hbW2 HBc.out)
  have SBW2 := Lib.hid hbW2; clear hbW2
  have HWW2 := Lib.hid hW2; clear hW2
  rw [HWW2.out]
  clear c00 c01 c02 c03 c04 c05 c06 c07 c10 c11 c20 c21
  have zsW2 := SBW2.out.size
  have ey0W2 : W2.cell? ⟨w.heap.size, 0, none⟩ = some (.slice y.aT y.nT y.cT) := cell_of_block ZyW2.out 0 (by simp)
  have ey1W2 : W2.cell? ⟨w.heap.size, 1, none⟩ = some (.slice y.aR y.nR y.cR) := cell_of_block ZyW2.out 1 (by simp)
  have ey2W2 : W2.cell? ⟨w.heap.size, 2, none⟩ = some (.int .i64 y.sl) := cell_of_block ZyW2.out 2 (by simp)
  have ey3W2 : W2.cell? ⟨w.heap.size, 3, none⟩ = some (.int .i64 y.sh) := cell_of_block ZyW2.out 3 (by simp)
  have ey4W2 : W2.cell? ⟨w.heap.size, 4, none⟩ = some (.int .i64 y.gl) := cell_of_block ZyW2.out 4 (by simp)
  have ey5W2 : W2.cell? ⟨w.heap.size, 5, none⟩ = some (.int .i64 y.gh) := cell_of_block ZyW2.out 5 (by simp)
  have ey6W2 : W2.cell? ⟨w.heap.size, 6, none⟩ = some (.int .i64 y.hl) := cell_of_block ZyW2.out 6 (by simp)
  have ey7W2 : W2.cell? ⟨w.heap.size, 7, none⟩ = some (.int .i64 y.hh) := cell_of_block ZyW2.out 7 (by simp)
  have lyW2 := (Array.getElem?_eq_some_iff.1 ZyW2.out).1
  go_wp2_with fail
  go_loopw [6] (fun t wr => ∃ j : Nat, j ≤ y.nR ∧ t = .int .i64 j ∧ Hid (wr.heap[w.heap.size]? = some (.cells #[.slice y.aT y.nT y.cT, .slice y.aR y.nR y.cR, .int .i64 y.sl, .int .i64 y.sh, .int .i64 y.gl, .int .i64 y.gh, .int .i64 y.hl, .int .i64 y.hh] 36 (0, 0))) ∧ Hid (wr.heap[w.heap.size + 1]? = some (.cells #[.int .i64 tl, .int .i64 th] 23 (0, 0))) ∧ Hid (wr.heap[w.heap.size + 1 + 1]? = some (.cells #[.int .i64 0, .int .i64 0] 23 (0, 0))) ∧ Hid (wr.heap[W1.heap.size]? = some (.cells #[.int .i64 (qLo y.A f l j), .int .i64 (qHi y.B f l j)] 23 (0, 0))) ∧ Hid (Below w.heap.size w wr)) (fun t _ => y.nR - (intOf t).toNat)
  case atStart => exact ⟨0, Nat.zero_le _, rfl, ZyW2, ZtW2, ZrW2, ZoW2, HBW2⟩
  case round =>
    obtain ⟨j, hj, rfl, Y0, Y1, Y2, Y3, HBr⟩ := hrel
    clear ey0W2 ey1W2 ey2W2 ey3W2 ey4W2 ey5W2 ey6W2 ey7W2
    have szr := (Array.getElem?_eq_some_iff.1 Y3.out).1
    by_cases hlt : j < y.nR
    · have QL := Lib.hid (show qLo y.A f l (j + 1) = if f ≤ j ∧ j ≤ l then minZ (qLo y.A f l j) (y.A j) else qLo y.A f l j from rfl)
      have QH := Lib.hid (show qHi y.B f l (j + 1) = if f ≤ j ∧ j ≤ l then maxZ (qHi y.B f l j) (y.B j) else qHi y.B f l j from rfl)
      obtain ⟨ql, hql⟩ : ∃ ql, qLo y.A f l j = ql := ⟨_, rfl⟩
      obtain ⟨qh, hqh⟩ : ∃ qh, qHi y.B f l j = qh := ⟨_, rfl⟩
      rw [hql] at QL Y3
      rw [hqh] at QH Y3
      clear hql hqh
      have ey0wr : wr.cell? ⟨w.heap.size, 0, none⟩ = some (.slice y.aT y.nT y.cT) := cell_of_block Y0.out 0 (by simp)
      have ey1wr : wr.cell? ⟨w.heap.size, 1, none⟩ = some (.slice y.aR y.nR y.cR) := cell_of_block Y0.out 1 (by simp)
      have ey2wr : wr.cell? ⟨w.heap.size, 2, none⟩ = some (.int .i64 y.sl) := cell_of_block Y0.out 2 (by simp)
      have ey3wr : wr.cell? ⟨w.heap.size, 3, none⟩ = some (.int .i64 y.sh) := cell_of_block Y0.out 3 (by simp)
      have ey4wr : wr.cell? ⟨w.heap.size, 4, none⟩ = some (.int .i64 y.gl) := cell_of_block Y0.out 4 (by simp)
      have ey5wr : wr.cell? ⟨w.heap.size, 5, none⟩ = some (.int .i64 y.gh) := cell_of_block Y0.out 5 (by simp)
      have ey6wr : wr.cell? ⟨w.heap.size, 6, none⟩ = some (.int .i64 y.hl) := cell_of_block Y0.out 6 (by simp)
      have ey7wr : wr.cell? ⟨w.heap.size, 7, none⟩ = some (.int .i64 y.hh) := cell_of_block Y0.out 7 (by simp)
      have lywr := (Array.getElem?_eq_some_iff.1 Y0.out).1
      have et0wr : wr.cell? ⟨w.heap.size + 1, 0, none⟩ = some (.int .i64 tl) := cell_of_block Y1.out 0 (by simp)
      have et1wr : wr.cell? ⟨w.heap.size + 1, 1, none⟩ = some (.int .i64 th) := cell_of_block Y1.out 1 (by simp)
      have ltwr := (Array.getElem?_eq_some_iff.1 Y1.out).1
      obtain ⟨b, off, ea, lb, hc⟩ := (HI.out.below HBr.out).r.resolve_left (by omega)
      obtain ⟨x0, x1⟩ := hc j hlt
      clear hc
      rw [ea] at ey1wr; clear ea
      have nr := NR.out
      have CB : (j < y.nT ∧ j < f ∧ y.T j ≤ tl) ∨ (j < y.nT ∧ f ≤ j ∧ ¬ y.T j ≤ tl) ∨ (¬ j < y.nT ∧ f ≤ j) := by
        by_cases h : j < y.nT
        · have := BE.out j h
          by_cases h2 : y.T j ≤ tl
          · exact .inl ⟨h, this.1 h2, h2⟩
          · exact .inr (.inl ⟨h, by have := mt this.2 h2; omega, h2⟩)
        · exact .inr (.inr ⟨h, by omega⟩)
      have CA : (j = 0) ∨ (0 < j ∧ l < j ∧ th < y.T (j - 1)) ∨ (0 < j ∧ j ≤ l ∧ ¬ th < y.T (j - 1)) := by
        by_cases h : j = 0
        · exact .inl h
        · have := AB.out (j - 1) (by omega)
          by_cases h2 : th < y.T (j - 1)
          · exact .inr (.inl ⟨by omega, by have := mt this.2 (by omega); omega, h2⟩)
          · exact .inr (.inr ⟨by omega, by have := this.1 (by omega); omega, h2⟩)
      have jn : j ≤ y.nT := by omega
      clear BE AB nr
      have TC := fun i (hi : i < y.nT) => (HI.out.below HBr.out).t.resolve_left (by omega)
      rcases CB with ⟨h0, h1, h2⟩ | ⟨h0, h1, h2⟩ | ⟨h0, h1⟩
      · rcases CA with rfl | ⟨g0, g1, g2⟩ | ⟨g0, g1, g2⟩
        · skip
          obtain ⟨bt, ot, et, lt, ht⟩ := TC 0 (by omega)
          rw [et] at ey0wr; clear et
          have q0 := ht 0 (by omega)
          rw [Nat.add_zero] at q0
          clear ht
          clear TC
          simp only [Nat.zero_mul, Nat.add_zero, Nat.zero_add] at x0 x1
          go_wp2_with fail
          refine wp_region_gw (by kernel_rfl) (by kernel_rfl) ?_
          repeat (go_big_quiet_step (fail))
          refine wpQuiet_nil ?_
          rintro _ ⟨z1, rfl⟩
          go_wp2_with fail
          refine wp_region_gw2 (by kernel_rfl) (by kernel_rfl) ?_
          repeat (go_big_quiet_step (fail))
          refine wpQuiet_nil ?_
          rintro _ ⟨z2, rfl⟩
          go_upto_region 4 with (fail)
          obtain ⟨W2, hW2⟩ : ∃ W2, gw wr z2 = W2 := ⟨_, rfl⟩
          have hbW2 : Below wr.heap.size wr W2 := by rw [← hW2]; exact below_gw wr z2
          have ZyW2 := Lib.hid ((hbW2.block _ (Array.getElem?_eq_some_iff.1 Y0.out).1).trans Y0.out)
          have ZtW2 := Lib.hid ((hbW2.block _ (Array.getElem?_eq_some_iff.1 Y1.out).1).trans Y1.out)
          have ZrW2 := Lib.hid ((hbW2.block _ (Array.getElem?_eq_some_iff.1 Y2.out).1).trans Y2.out)
          have ZoW2 := Lib.hid ((hbW2.block _ (Array.getElem?_eq_some_iff.1 Y3.out).1).trans Y3.out)
          have HBW2 := Lib.hid (thru hbW2 HBr.out)
          have SBW2 := Lib.hid hbW2; clear hbW2
          have HWW2 := Lib.hid hW2; clear hW2
          rw [HWW2.out]
          have zsW2 := SBW2.out.size
          rw [if_neg (by omega)] at QL QH
          go_wp2_with fail
          go_roundw
          case rel => exact ⟨0 + 1, by omega, by go_num, ZyW2, ZtW2, ZrW2, by rw [QL.out, QH.out]; exact ZoW2, HBW2⟩
          case measure => simp [intOf]; omega
        · exact absurd f2 (by omega)
        · skip
          obtain ⟨bt, ot, et, lt, ht⟩ := TC j (by omega)
          rw [et] at ey0wr; clear et
          have q0 := ht j (by omega)
          have q1 := ht (j - 1) (by omega)
          rw [show ((ot + (j - 1) : Nat)) = ot + (j - 1) from rfl] at q1
          clear ht
          have d2 : decide (th < y.T (j - 1)) = false := decide_eq_false g2
          clear TC
          go_wp2_with fail
          refine wp_region_gw (by kernel_rfl) (by kernel_rfl) ?_
          repeat (go_big_quiet_step (fail))
          refine wpQuiet_nil ?_
          rintro _ ⟨z1, rfl⟩
          go_wp2_with fail
          refine wp_region_gw2 (by kernel_rfl) (by kernel_rfl) ?_
          repeat (go_big_quiet_step (fail))
          refine wpQuiet_nil ?_
          rintro _ ⟨z2, rfl⟩
          go_upto_region 4 with (fail)
          obtain ⟨W2, hW2⟩ : ∃ W2, gw wr z2 = W2 := ⟨_, rfl⟩
          have hbW2 : Below wr.heap.size wr W2 := by rw [← hW2]; exact below_gw wr z2
          have ZyW2 := Lib.hid ((hbW2.block _ (Array.getElem?_eq_some_iff.1 Y0.out).1).trans Y0.out)
          have ZtW2 := Lib.hid ((hbW2.block _ (Array.getElem?_eq_some_iff.1 Y1.out).1).trans Y1.out)
          have ZrW2 := Lib.hid ((hbW2.block _ (Array.getElem?_eq_some_iff.1 Y2.out).1).trans Y2.out)
          have ZoW2 := Lib.hid ((hbW2.block _ (Array.getElem?_eq_some_iff.1 Y3.out).1).trans Y3.out)
          have HBW2 := Lib.hid (thru hbW2 HBr.out)
          have SBW2 := Lib.hid hbW2; clear hbW2
          have HWW2 := Lib.hid hW2; clear hW2
          rw [HWW2.out]
          have zsW2 := SBW2.out.size
          rw [if_neg (by omega)] at QL QH
          go_wp2_with fail
          go_roundw
          case rel => exact ⟨j + 1, by omega, by go_num, ZyW2, ZtW2, ZrW2, by rw [QL.out, QH.out]; exact ZoW2, HBW2⟩
          case measure => simp [intOf]; omega
      · rcases CA with rfl | ⟨g0, g1, g2⟩ | ⟨g0, g1, g2⟩
        · skip
          obtain ⟨bt, ot, et, lt, ht⟩ := TC 0 (by omega)
          rw [et] at ey0wr; clear et
          have q0 := ht 0 (by omega)
          rw [Nat.add_zero] at q0
          clear ht
          have d1 : decide (y.T 0 ≤ tl) = false := decide_eq_false h2
          clear TC
          simp only [Nat.zero_mul, Nat.add_zero, Nat.zero_add] at x0 x1
          go_wp2_with fail
          refine wp_region_gw (by kernel_rfl) (by kernel_rfl) ?_
          repeat (go_big_quiet_step (fail))
          refine wpQuiet_nil ?_
          rintro _ ⟨z1, rfl⟩
          go_wp2_with fail
          refine wp_region_gw2 (by kernel_rfl) (by kernel_rfl) ?_
          repeat (go_big_quiet_step (fail))
          refine wpQuiet_nil ?_
          rintro _ ⟨z2, rfl⟩
          go_wp2_with fail
          have eo0wr : wr.cell? ⟨W1.heap.size, 0, none⟩ = some (.int .i64 ql) := cell_of_block Y3.out 0 (by simp)
          have fo0wr := frozen_of_block Y3.out 0
          have eo1wr : wr.cell? ⟨W1.heap.size, 1, none⟩ = some (.int .i64 qh) := cell_of_block Y3.out 1 (by simp)
          have fo1wr := frozen_of_block Y3.out 1
          have lowr := (Array.getElem?_eq_some_iff.1 Y3.out).1
          refine wp_region_gw_tail2 19 (by kernel_rfl) (by kernel_rfl) ?_
          simp only [List.take_succ_cons, List.take_zero]
          repeat (go_big_quiet_step (fail))
          refine wpQuiet_nil ?_
          rintro _ ⟨z3, rfl⟩
          simp only [List.drop_succ_cons, List.drop_zero]
          rw [if_pos (by omega)] at QL QH
          rw [← QL.out, ← QH.out]
          go_upto_region 4 with (fail)
          obtain ⟨W2, hW2⟩ : ∃ W2, (((gw wr z3)).setCell ⟨W1.heap.size, 0, none⟩ (.int .i64 (qLo y.A f l (0 + 1)))).setCell ⟨W1.heap.size, 1, none⟩ (.int .i64 (qHi y.B f l (0 + 1))) = W2 := ⟨_, rfl⟩
          have hgW2 : wr.grownBy W2 (some (W1.heap.size)) := by rw [← hW2]; exact grownBy_trans (grownBy_trans (grownBy_of_below (below_gw wr z3) _) (grownBy_set _ _ _ _)) (grownBy_set _ _ _ _)
          have ZyW2 := Lib.hid ((hgW2.block _ (Array.getElem?_eq_some_iff.1 Y0.out).1 (by simp <;> omega)).trans Y0.out)
          have ZtW2 := Lib.hid ((hgW2.block _ (Array.getElem?_eq_some_iff.1 Y1.out).1 (by simp <;> omega)).trans Y1.out)
          have ZrW2 := Lib.hid ((hgW2.block _ (Array.getElem?_eq_some_iff.1 Y2.out).1 (by simp <;> omega)).trans Y2.out)
          have ZoW2 := Lib.hid (show W2.heap[W1.heap.size]? = some (.cells #[.int .i64 (qLo y.A f l (0 + 1)), .int .i64 (qHi y.B f l (0 + 1))] 23 (0, 0)) by rw [← hW2]; exact block_set 1 _ (block_set 0 _ (((below_gw wr z3).block _ (Array.getElem?_eq_some_iff.1 Y3.out).1).trans Y3.out)))
          have HBW2 := Lib.hid (HBr.out.grown hgW2 HBr.out.size (fun g hg => by cases hg; omega))
          have zsW2 := hgW2.size
          have GBW2 := Lib.hid hgW2; clear hgW2
          have HWW2 := Lib.hid hW2; clear hW2
          rw [HWW2.out]
          go_wp2_with fail
          go_roundw
          case rel => exact ⟨0 + 1, by omega, by go_num, ZyW2, ZtW2, ZrW2, ZoW2, HBW2⟩
          case measure => simp [intOf]; omega
        · skip
          obtain ⟨bt, ot, et, lt, ht⟩ := TC j (by omega)
          rw [et] at ey0wr; clear et
          have q0 := ht j (by omega)
          have q1 := ht (j - 1) (by omega)
          rw [show ((ot + (j - 1) : Nat)) = ot + (j - 1) from rfl] at q1
          clear ht
          have d1 : decide (y.T j ≤ tl) = false := decide_eq_false h2
          clear TC
          go_wp2_with fail
          refine wp_region_gw (by kernel_rfl) (by kernel_rfl) ?_
          repeat (go_big_quiet_step (fail))
          refine wpQuiet_nil ?_
          rintro _ ⟨z1, rfl⟩
          go_wp2_with fail
          refine wp_region_gw2 (by kernel_rfl) (by kernel_rfl) ?_
          repeat (go_big_quiet_step (fail))
          refine wpQuiet_nil ?_
          rintro _ ⟨z2, rfl⟩
          go_upto_region 4 with (fail)
          obtain ⟨W2, hW2⟩ : ∃ W2, gw wr z2 = W2 := ⟨_, rfl⟩
          have hbW2 : Below wr.heap.size wr W2 := by rw [← hW2]; exact below_gw wr z2
          have ZyW2 := Lib.hid ((hbW2.block _ (Array.getElem?_eq_some_iff.1 Y0.out).1).trans Y0.out)
          have ZtW2 := Lib.hid ((hbW2.block _ (Array.getElem?_eq_some_iff.1 Y1.out).1).trans Y1.out)
          have ZrW2 := Lib.hid ((hbW2.block _ (Array.getElem?_eq_some_iff.1 Y2.out).1).trans Y2.out)
          have ZoW2 := Lib.hid ((hbW2.block _ (Array.getElem?_eq_some_iff.1 Y3.out).1).trans Y3.out)
          have HBW2 := Lib.hid (thru hbW2 HBr.out)
          have SBW2 := Lib.hid hbW2; clear hbW2
          have HWW2 := Lib.hid hW2; clear hW2
          rw [HWW2.out]
          have zsW2 := SBW2.out.size
          rw [if_neg (by omega)] at QL QH
          go_wp2_with fail
          go_roundw
          case rel => exact ⟨j + 1, by omega, by go_num, ZyW2, ZtW2, ZrW2, by rw [QL.out, QH.out]; exact ZoW2, HBW2⟩
          case measure => simp [intOf]; omega
        · skip
          obtain ⟨bt, ot, et, lt, ht⟩ := TC j (by omega)
          rw [et] at ey0wr; clear et
          have q0 := ht j (by omega)
          have q1 := ht (j - 1) (by omega)
          rw [show ((ot + (j - 1) : Nat)) = ot + (j - 1) from rfl] at q1
          clear ht
          have d1 : decide (y.T j ≤ tl) = false := decide_eq_false h2
          have d2 : decide (th < y.T (j - 1)) = false := decide_eq_false g2
          clear TC
          go_wp2_with fail
          refine wp_region_gw (by kernel_rfl) (by kernel_rfl) ?_
          repeat (go_big_quiet_step (fail))
          refine wpQuiet_nil ?_
          rintro _ ⟨z1, rfl⟩
          go_wp2_with fail
          refine wp_region_gw2 (by kernel_rfl) (by kernel_rfl) ?_
          repeat (go_big_quiet_step (fail))
          refine wpQuiet_nil ?_
          rintro _ ⟨z2, rfl⟩
          go_wp2_with fail
          have eo0wr : wr.cell? ⟨W1.heap.size, 0, none⟩ = some (.int .i64 ql) := cell_of_block Y3.out 0 (by simp)
          have fo0wr := frozen_of_block Y3.out 0
          have eo1wr : wr.cell? ⟨W1.heap.size, 1, none⟩ = some (.int .i64 qh) := cell_of_block Y3.out 1 (by simp)
          have fo1wr := frozen_of_block Y3.out 1
          have lowr := (Array.getElem?_eq_some_iff.1 Y3.out).1
          refine wp_region_gw_tail2 19 (by kernel_rfl) (by kernel_rfl) ?_
          simp only [List.take_succ_cons, List.take_zero]
          repeat (go_big_quiet_step (fail))
          refine wpQuiet_nil ?_
          rintro _ ⟨z3, rfl⟩
          simp only [List.drop_succ_cons, List.drop_zero]
          rw [if_pos (by omega)] at QL QH
          rw [← QL.out, ← QH.out]
          go_upto_region 4 with (fail)
          obtain ⟨W2, hW2⟩ : ∃ W2, (((gw wr z3)).setCell ⟨W1.heap.size, 0, none⟩ (.int .i64 (qLo y.A f l (j + 1)))).setCell ⟨W1.heap.size, 1, none⟩ (.int .i64 (qHi y.B f l (j + 1))) = W2 := ⟨_, rfl⟩
          have hgW2 : wr.grownBy W2 (some (W1.heap.size)) := by rw [← hW2]; exact grownBy_trans (grownBy_trans (grownBy_of_below (below_gw wr z3) _) (grownBy_set _ _ _ _)) (grownBy_set _ _ _ _)
          have ZyW2 := Lib.hid ((hgW2.block _ (Array.getElem?_eq_some_iff.1 Y0.out).1 (by simp <;> omega)).trans Y0.out)
          have ZtW2 := Lib.hid ((hgW2.block _ (Array.getElem?_eq_some_iff.1 Y1.out).1 (by simp <;> omega)).trans Y1.out)
          have ZrW2 := Lib.hid ((hgW2.block _ (Array.getElem?_eq_some_iff.1 Y2.out).1 (by simp <;> omega)).trans Y2.out)
          have ZoW2 := Lib.hid (show W2.heap[W1.heap.size]? = some (.cells #[.int .i64 (qLo y.A f l (j + 1)), .int .i64 (qHi y.B f l (j + 1))] 23 (0, 0)) by rw [← hW2]; exact block_set 1 _ (block_set 0 _ (((below_gw wr z3).block _ (Array.getElem?_eq_some_iff.1 Y3.out).1).trans Y3.out)))
          have HBW2 := Lib.hid (HBr.out.grown hgW2 HBr.out.size (fun g hg => by cases hg; omega))
          have zsW2 := hgW2.size
          have GBW2 := Lib.hid hgW2; clear hgW2
          have HWW2 := Lib.hid hW2; clear hW2
          rw [HWW2.out]
          go_wp2_with fail
          go_roundw
          case rel => exact ⟨j + 1, by omega, by go_num, ZyW2, ZtW2, ZrW2, ZoW2, HBW2⟩
          case measure => simp [intOf]; omega
      · rcases CA with rfl | ⟨g0, g1, g2⟩ | ⟨g0, g1, g2⟩
        · skip
          have d0 : decide (0 < y.nT) = false := decide_eq_false h0
          clear TC
          simp only [Nat.zero_mul, Nat.add_zero, Nat.zero_add] at x0 x1
          go_wp2_with fail
          refine wp_region_gw (by kernel_rfl) (by kernel_rfl) ?_
          repeat (go_big_quiet_step (fail))
          refine wpQuiet_nil ?_
          rintro _ ⟨z1, rfl⟩
          go_wp2_with fail
          refine wp_region_gw2 (by kernel_rfl) (by kernel_rfl) ?_
          repeat (go_big_quiet_step (fail))
          refine wpQuiet_nil ?_
          rintro _ ⟨z2, rfl⟩
          go_wp2_with fail
          have eo0wr : wr.cell? ⟨W1.heap.size, 0, none⟩ = some (.int .i64 ql) := cell_of_block Y3.out 0 (by simp)
          have fo0wr := frozen_of_block Y3.out 0
          have eo1wr : wr.cell? ⟨W1.heap.size, 1, none⟩ = some (.int .i64 qh) := cell_of_block Y3.out 1 (by simp)
          have fo1wr := frozen_of_block Y3.out 1
          have lowr := (Array.getElem?_eq_some_iff.1 Y3.out).1
          refine wp_region_gw_tail2 19 (by kernel_rfl) (by kernel_rfl) ?_
          simp only [List.take_succ_cons, List.take_zero]
          repeat (go_big_quiet_step (fail))
          refine wpQuiet_nil ?_
          rintro _ ⟨z3, rfl⟩
          simp only [List.drop_succ_cons, List.drop_zero]
          rw [if_pos (by omega)] at QL QH
          rw [← QL.out, ← QH.out]
          go_upto_region 4 with (fail)
          obtain ⟨W2, hW2⟩ : ∃ W2, (((gw wr z3)).setCell ⟨W1.heap.size, 0, none⟩ (.int .i64 (qLo y.A f l (0 + 1)))).setCell ⟨W1.heap.size, 1, none⟩ (.int .i64 (qHi y.B f l (0 + 1))) = W2 := ⟨_, rfl⟩
          have hgW2 : wr.grownBy W2 (some (W1.heap.size)) := by rw [← hW2]; exact grownBy_trans (grownBy_trans (grownBy_of_below (below_gw wr z3) _) (grownBy_set _ _ _ _)) (grownBy_set _ _ _ _)
          have ZyW2 := Lib.hid ((hgW2.block _ (Array.getElem?_eq_some_iff.1 Y0.out).1 (by simp <;> omega)).trans Y0.out)
          have ZtW2 := Lib.hid ((hgW2.block _ (Array.getElem?_eq_some_iff.1 Y1.out).1 (by simp <;> omega)).trans Y1.out)
          have ZrW2 := Lib.hid ((hgW2.block _ (Array.getElem?_eq_some_iff.1 Y2.out).1 (by simp <;> omega)).trans Y2.out)
          have ZoW2 := Lib.hid (show W2.heap[W1.heap.size]? = some (.cells #[.int .i64 (qLo y.A f l (0 + 1)), .int .i64 (qHi y.B f l (0 + 1))] 23 (0, 0)) by rw [← hW2]; exact block_set 1 _ (block_set 0 _ (((below_gw wr z3).block _ (Array.getElem?_eq_some_iff.1 Y3.out).1).trans Y3.out)))
          have HBW2 := Lib.hid (HBr.out.grown hgW2 HBr.out.size (fun g hg => by cases hg; omega))
          have zsW2 := hgW2.size
          have GBW2 := Lib.hid hgW2; clear hgW2
          have HWW2 := Lib.hid hW2; clear hW2
          rw [HWW2.out]
          go_wp2_with fail
          go_roundw
          case rel => exact ⟨0 + 1, by omega, by go_num, ZyW2, ZtW2, ZrW2, ZoW2, HBW2⟩
          case measure => simp [intOf]; omega
        · skip
          obtain ⟨bt, ot, et, lt, ht⟩ := TC (j - 1) (by omega)
          rw [et] at ey0wr; clear et
          have q1 := ht (j - 1) (by omega)
          rw [show ((ot + (j - 1) : Nat)) = ot + (j - 1) from rfl] at q1
          clear ht
          have d0 : decide (j < y.nT) = false := decide_eq_false h0
          clear TC
          go_wp2_with fail
          refine wp_region_gw (by kernel_rfl) (by kernel_rfl) ?_
          repeat (go_big_quiet_step (fail))
          refine wpQuiet_nil ?_
          rintro _ ⟨z1, rfl⟩
          go_wp2_with fail
          refine wp_region_gw2 (by kernel_rfl) (by kernel_rfl) ?_
          repeat (go_big_quiet_step (fail))
          refine wpQuiet_nil ?_
          rintro _ ⟨z2, rfl⟩
          go_upto_region 4 with (fail)
          obtain ⟨W2, hW2⟩ : ∃ W2, gw wr z2 = W2 := ⟨_, rfl⟩
          have hbW2 : Below wr.heap.size wr W2 := by rw [← hW2]; exact below_gw wr z2
          have ZyW2 := Lib.hid ((hbW2.block _ (Array.getElem?_eq_some_iff.1 Y0.out).1).trans Y0.out)
          have ZtW2 := Lib.hid ((hbW2.block _ (Array.getElem?_eq_some_iff.1 Y1.out).1).trans Y1.out)
          have ZrW2 := Lib.hid ((hbW2.block _ (Array.getElem?_eq_some_iff.1 Y2.out).1).trans Y2.out)
          have ZoW2 := Lib.hid ((hbW2.block _ (Array.getElem?_eq_some_iff.1 Y3.out).1).trans Y3.out)
          have HBW2 := Lib.hid (thru hbW2 HBr.out)
          have SBW2 := Lib.hid hbW2; clear hbW2
          have HWW2 := Lib.hid hW2; clear hW2
          rw [HWW2.out]
          have zsW2 := SBW2.out.size
          rw [if_neg (by omega)] at QL QH
          go_wp2_with fail
          go_roundw
          case rel => exact ⟨j + 1, by omega, by go_num, ZyW2, ZtW2, ZrW2, by rw [QL.out, QH.out]; exact ZoW2, HBW2⟩
          case measure => simp [intOf]; omega
        · skip
          obtain ⟨bt, ot, et, lt, ht⟩ := TC (j - 1) (by omega)
          rw [et] at ey0wr; clear et
          have q1 := ht (j - 1) (by omega)
          rw [show ((ot + (j - 1) : Nat)) = ot + (j - 1) from rfl] at q1
          clear ht
          have d0 : decide (j < y.nT) = false := decide_eq_false h0
          have d2 : decide (th < y.T (j - 1)) = false := decide_eq_false g2
          clear TC
          go_wp2_with fail
          refine wp_region_gw (by kernel_rfl) (by kernel_rfl) ?_
          repeat (go_big_quiet_step (fail))
          refine wpQuiet_nil ?_
          rintro _ ⟨z1, rfl⟩
          go_wp2_with fail
          refine wp_region_gw2 (by kernel_rfl) (by kernel_rfl) ?_
          repeat (go_big_quiet_step (fail))
          refine wpQuiet_nil ?_
          rintro _ ⟨z2, rfl⟩
          go_wp2_with fail
          have eo0wr : wr.cell? ⟨W1.heap.size, 0, none⟩ = some (.int .i64 ql) := cell_of_block Y3.out 0 (by simp)
          have fo0wr := frozen_of_block Y3.out 0
          have eo1wr : wr.cell? ⟨W1.heap.size, 1, none⟩ = some (.int .i64 qh) := cell_of_block Y3.out 1 (by simp)
          have fo1wr := frozen_of_block Y3.out 1
          have lowr := (Array.getElem?_eq_some_iff.1 Y3.out).1
          refine wp_region_gw_tail2 19 (by kernel_rfl) (by kernel_rfl) ?_
          simp only [List.take_succ_cons, List.take_zero]
          repeat (go_big_quiet_step (fail))
          refine wpQuiet_nil ?_
          rintro _ ⟨z3, rfl⟩
          simp only [List.drop_succ_cons, List.drop_zero]
          rw [if_pos (by omega)] at QL QH
          rw [← QL.out, ← QH.out]
          go_upto_region 4 with (fail)
          obtain ⟨W2, hW2⟩ : ∃ W2, (((gw wr z3)).setCell ⟨W1.heap.size, 0, none⟩ (.int .i64 (qLo y.A f l (j + 1)))).setCell ⟨W1.heap.size, 1, none⟩ (.int .i64 (qHi y.B f l (j + 1))) = W2 := ⟨_, rfl⟩
          have hgW2 : wr.grownBy W2 (some (W1.heap.size)) := by rw [← hW2]; exact grownBy_trans (grownBy_trans (grownBy_of_below (below_gw wr z3) _) (grownBy_set _ _ _ _)) (grownBy_set _ _ _ _)
          have ZyW2 := Lib.hid ((hgW2.block _ (Array.getElem?_eq_some_iff.1 Y0.out).1 (by simp <;> omega)).trans Y0.out)
          have ZtW2 := Lib.hid ((hgW2.block _ (Array.getElem?_eq_some_iff.1 Y1.out).1 (by simp <;> omega)).trans Y1.out)
          have ZrW2 := Lib.hid ((hgW2.block _ (Array.getElem?_eq_some_iff.1 Y2.out).1 (by simp <;> omega)).trans Y2.out)
          have ZoW2 := Lib.hid (show W2.heap[W1.heap.size]? = some (.cells #[.int .i64 (qLo y.A f l (j + 1)), .int .i64 (qHi y.B f l (j + 1))] 23 (0, 0)) by rw [← hW2]; exact block_set 1 _ (block_set 0 _ (((below_gw wr z3).block _ (Array.getElem?_eq_some_iff.1 Y3.out).1).trans Y3.out)))
          have HBW2 := Lib.hid (HBr.out.grown hgW2 HBr.out.size (fun g hg => by cases hg; omega))
          have zsW2 := hgW2.size
          have GBW2 := Lib.hid hgW2; clear hgW2
          have HWW2 := Lib.hid hW2; clear hW2
          rw [HWW2.out]
          go_wp2_with fail
          go_roundw
          case rel => exact ⟨j + 1, by omega, by go_num, ZyW2, ZtW2, ZrW2, ZoW2, HBW2⟩
          case measure => simp [intOf]; omega
    · have hjn : j = y.nR := by omega
      rw [hjn] at Y3
      clear BE AB
      rw [E1.out, E2.out] at Y3
      have nlt : ¬ j < y.nR := hlt
      have ey0wr : wr.cell? ⟨w.heap.size, 0, none⟩ = some (.slice y.aT y.nT y.cT) := cell_of_block Y0.out 0 (by simp)
      have ey1wr : wr.cell? ⟨w.heap.size, 1, none⟩ = some (.slice y.aR y.nR y.cR) := cell_of_block Y0.out 1 (by simp)
      have ey2wr : wr.cell? ⟨w.heap.size, 2, none⟩ = some (.int .i64 y.sl) := cell_of_block Y0.out 2 (by simp)
      have ey3wr : wr.cell? ⟨w.heap.size, 3, none⟩ = some (.int .i64 y.sh) := cell_of_block Y0.out 3 (by simp)
      have ey4wr : wr.cell? ⟨w.heap.size, 4, none⟩ = some (.int .i64 y.gl) := cell_of_block Y0.out 4 (by simp)
      have ey5wr : wr.cell? ⟨w.heap.size, 5, none⟩ = some (.int .i64 y.gh) := cell_of_block Y0.out 5 (by simp)
      have ey6wr : wr.cell? ⟨w.heap.size, 6, none⟩ = some (.int .i64 y.hl) := cell_of_block Y0.out 6 (by simp)
      have ey7wr : wr.cell? ⟨w.heap.size, 7, none⟩ = some (.int .i64 y.hh) := cell_of_block Y0.out 7 (by simp)
      have lywr := (Array.getElem?_eq_some_iff.1 Y0.out).1
      have er0wr : wr.cell? ⟨w.heap.size + 1 + 1, 0, none⟩ = some (.int .i64 0) := cell_of_block Y2.out 0 (by simp)
      have fr0wr := frozen_of_block Y2.out 0
      have er1wr : wr.cell? ⟨w.heap.size + 1 + 1, 1, none⟩ = some (.int .i64 0) := cell_of_block Y2.out 1 (by simp)
      have fr1wr := frozen_of_block Y2.out 1
      have lrwr := (Array.getElem?_eq_some_iff.1 Y2.out).1
      have eo0wr : wr.cell? ⟨W1.heap.size, 0, none⟩ = some (.int .i64 (y.rl tl th)) := cell_of_block Y3.out 0 (by simp)
      have eo1wr : wr.cell? ⟨W1.heap.size, 1, none⟩ = some (.int .i64 (y.rh tl th)) := cell_of_block Y3.out 1 (by simp)
      have lowr := (Array.getElem?_eq_some_iff.1 Y3.out).1
      go_wp2_with fail
      refine bodyPost_ret (v := .agg #[.int .i64 (y.rl tl th), .int .i64 (y.rh tl th)]) (by simp [results, Try.results25, go_sem, *]) rfl ⟨rfl, ?_⟩
      exact ((HBr.out).setCell (by simp <;> omega) _).setCell (by simp <;> omega) _
end Go.Proofs.Ytecbacbecopbeaa
