/- First (reference). No conditions beyond each theorem's own. -/
import Derived.Test.YtecbacbecopbeaaCc
import Derived.Test.YtecbacbecopbeaaBw
set_option linter.unusedVariables false
set_option linter.unusedSimpArgs false
set_option linter.unusedSectionVars false
set_option linter.constructorNameAsVariable false
namespace Go.Proofs.Ytecbacbecopbeaa
open Go.RowKit

attribute [local go_sem] gw_cell gw_frozen gw_size

/-- is the vat behind hour i within limits? -/
def inB' (y : Yst) (v : Vat) (F G : Nat → Int) (ll lh : Int) (i : Nat) : Bool := insB (y.vs v F G (i + 1)).tl (y.vs v F G (i + 1)).th ll lh
def firstE (y : Yst) (v : Vat) (k : Nat) (F G : Nat → Int) (ll lh : Int) : Int :=
  if lh < ll then 1 else if ferE y v k F G = 0 then (if okN (inB' y v F G ll lh) k < k then 0 else 4) else ferE y v k F G
def firstN (y : Yst) (v : Vat) (k : Nat) (F G : Nat → Int) (ll lh : Int) : Nat :=
  if firstE y v k F G ll lh = 0 then okN (inB' y v F G ll lh) k else 0
theorem first_lim {y : Yst} {v : Vat} {k : Nat} {F G : Nat → Int} {ll lh : Int} (h : lh < ll) : firstE y v k F G ll lh = 1 ∧ firstN y v k F G ll lh = 0 := by
  have e : firstE y v k F G ll lh = 1 := by unfold firstE; rw [if_pos h]
  exact ⟨e, by unfold firstN; rw [e]; rfl⟩
theorem first_fer {y : Yst} {v : Vat} {k : Nat} {F G : Nat → Int} {ll lh : Int} (h : ¬ lh < ll) (hE : ferE y v k F G ≠ 0) : firstE y v k F G ll lh = ferE y v k F G ∧ firstN y v k F G ll lh = 0 := by
  have e : firstE y v k F G ll lh = ferE y v k F G := by unfold firstE; rw [if_neg h, if_neg hE]
  exact ⟨e, by unfold firstN; rw [e, if_neg hE]⟩
theorem first_hit {y : Yst} {v : Vat} {k : Nat} {F G : Nat → Int} {ll lh : Int} (h : ¬ lh < ll) (hE : ferE y v k F G = 0) {i : Nat} (hi : i < k) (h1 : ∀ t, t < i → inB' y v F G ll lh t = true) (h2 : inB' y v F G ll lh i = false) : firstE y v k F G ll lh = 0 ∧ firstN y v k F G ll lh = i := by
  have hN := okN_unique (p := inB' y v F G ll lh) (n := k) (by omega) h1 (fun _ => h2)
  have e : firstE y v k F G ll lh = 0 := by unfold firstE; rw [if_neg h, if_pos hE, if_pos (by omega)]
  exact ⟨e, by unfold firstN; rw [if_pos e]; exact hN.symm⟩
theorem first_none {y : Yst} {v : Vat} {k : Nat} {F G : Nat → Int} {ll lh : Int} (h : ¬ lh < ll) (hE : ferE y v k F G = 0) (h1 : ∀ t, t < k → inB' y v F G ll lh t = true) : firstE y v k F G ll lh = 4 ∧ firstN y v k F G ll lh = 0 := by
  have hN := okN_unique (p := inB' y v F G ll lh) (n := k) (Nat.le_refl _) h1 (fun h => by omega)
  have e : firstE y v k F G ll lh = 4 := by unfold firstE; rw [if_neg h, if_pos hE, if_neg (by omega)]
  exact ⟨e, by unfold firstN; rw [e]; rfl⟩
/-- what First hands back -/
def FirR (y : Yst) (v : Vat) (k : Nat) (F G : Nat → Int) (ll lh : Int) (w : World) (e : Ending) (w' : World) : Prop :=
  e = .returned (.tuple #[.int .i64 (firstN y v k F G ll lh), .int .i64 (firstE y v k F G ll lh)]) ∧ Below w.heap.size w w'
theorem fir_bad {y : Yst} {v : Vat} {k : Nat} {F G : Nat → Int} {ll lh : Int} {w w' : World} {n : Nat} {x : Int} {e : Ending} (h : firstE y v k F G ll lh = x ∧ firstN y v k F G ll lh = n) (he : e = .returned (.tuple #[.int .i64 n, .int .i64 x])) (hb : Below w.heap.size w w') : FirR y v k F G ll lh w e w' :=
  ⟨by rw [h.1, h.2]; exact he, hb⟩

set_option maxRecDepth 100000 in
set_option maxHeartbeats 16000000 in
theorem rFirst_any (aS : Option Addr) (k cS : Nat) (F G : Nat → Int) (y : Yst) (v : Vat) (ll lh : Int) (w : World) (hI : y.In w) (hf : y.Fits) (hS : SpansAt w aS k F G) (hk : k ≤ 9223372036854775807) :
    Calls Try.prog 38 #[y.val, v.val, .slice aS k cS, .agg #[.int .i64 ll, .int .i64 lh]] w (FirR y v k F G ll lh w) := by
  rw [show y.val = .agg #[.slice y.aT y.nT y.cT, .slice y.aR y.nR y.cR, .int .i64 y.sl, .int .i64 y.sh, .int .i64 y.gl, .int .i64 y.gh, .int .i64 y.hl, .int .i64 y.hh] from rfl, show v.val = .agg #[.int .i64 v.sl, .int .i64 v.sh, .int .i64 v.el, .int .i64 v.eh, .int .i64 v.pl, .int .i64 v.ph, .int .i64 v.gl, .int .i64 v.gh, .int .i64 v.ol, .int .i64 v.oh, .int .i64 v.tl, .int .i64 v.th, .int .i64 v.c] from rfl]
  obtain ⟨W1, hW1⟩ : ∃ W1, ((w.alloc (.cells #[.slice y.aT y.nT y.cT, .slice y.aR y.nR y.cR, .int .i64 y.sl, .int .i64 y.sh, .int .i64 y.gl, .int .i64 y.gh, .int .i64 y.hl, .int .i64 y.hh] 36)).alloc (.cells #[.int .i64 v.sl, .int .i64 v.sh, .int .i64 v.el, .int .i64 v.eh, .int .i64 v.pl, .int .i64 v.ph, .int .i64 v.gl, .int .i64 v.gh, .int .i64 v.ol, .int .i64 v.oh, .int .i64 v.tl, .int .i64 v.th, .int .i64 v.c] 38)).alloc (.cells #[.int .i64 ll, .int .i64 lh] 23) = W1 := ⟨_, rfl⟩
  have hBc : Below w.heap.size w W1 := by rw [← hW1]; exact ((below_alloc _ _).alloc (by simp) _).alloc (by simp <;> omega) _
  have zc0 : W1.heap[w.heap.size]? = some (.cells #[.slice y.aT y.nT y.cT, .slice y.aR y.nR y.cR, .int .i64 y.sl, .int .i64 y.sh, .int .i64 y.gl, .int .i64 y.gh, .int .i64 y.hl, .int .i64 y.hh] 36 (0, 0)) := by rw [← hW1]; exact alloc_keep (alloc_keep (alloc_at rfl))
  have zc1 : W1.heap[w.heap.size + 1]? = some (.cells #[.int .i64 v.sl, .int .i64 v.sh, .int .i64 v.el, .int .i64 v.eh, .int .i64 v.pl, .int .i64 v.ph, .int .i64 v.gl, .int .i64 v.gh, .int .i64 v.ol, .int .i64 v.oh, .int .i64 v.tl, .int .i64 v.th, .int .i64 v.c] 38 (0, 0)) := by rw [← hW1]; exact alloc_keep (alloc_at (by simp))
  have zc2 : W1.heap[w.heap.size + 1 + 1]? = some (.cells #[.int .i64 ll, .int .i64 lh] 23 (0, 0)) := by rw [← hW1]; exact alloc_at (by simp <;> omega)
  have c00 : W1.cell? ⟨w.heap.size, 0, none⟩ = some (.slice y.aT y.nT y.cT) := cell_of_block zc0 0 (by simp)
  have c01 : W1.cell? ⟨w.heap.size, 1, none⟩ = some (.slice y.aR y.nR y.cR) := cell_of_block zc0 1 (by simp)
  have c02 : W1.cell? ⟨w.heap.size, 2, none⟩ = some (.int .i64 y.sl) := cell_of_block zc0 2 (by simp)
  have c03 : W1.cell? ⟨w.heap.size, 3, none⟩ = some (.int .i64 y.sh) := cell_of_block zc0 3 (by simp)
  have c04 : W1.cell? ⟨w.heap.size, 4, none⟩ = some (.int .i64 y.gl) := cell_of_block zc0 4 (by simp)
  have c05 : W1.cell? ⟨w.heap.size, 5, none⟩ = some (.int .i64 y.gh) := cell_of_block zc0 5 (by simp)
  have c06 : W1.cell? ⟨w.heap.size, 6, none⟩ = some (.int .i64 y.hl) := cell_of_block zc0 6 (by simp)
  have c07 : W1.cell? ⟨w.heap.size, 7, none⟩ = some (.int .i64 y.hh) := cell_of_block zc0 7 (by simp)
  have c10 : W1.cell? ⟨w.heap.size + 1, 0, none⟩ = some (.int .i64 v.sl) := cell_of_block zc1 0 (by simp)
  have c11 : W1.cell? ⟨w.heap.size + 1, 1, none⟩ = some (.int .i64 v.sh) := cell_of_block zc1 1 (by simp)
  have c12 : W1.cell? ⟨w.heap.size + 1, 2, none⟩ = some (.int .i64 v.el) := cell_of_block zc1 2 (by simp)
  have c13 : W1.cell? ⟨w.heap.size + 1, 3, none⟩ = some (.int .i64 v.eh) := cell_of_block zc1 3 (by simp)
  have c14 : W1.cell? ⟨w.heap.size + 1, 4, none⟩ = some (.int .i64 v.pl) := cell_of_block zc1 4 (by simp)
  have c15 : W1.cell? ⟨w.heap.size + 1, 5, none⟩ = some (.int .i64 v.ph) := cell_of_block zc1 5 (by simp)
  have c16 : W1.cell? ⟨w.heap.size + 1, 6, none⟩ = some (.int .i64 v.gl) := cell_of_block zc1 6 (by simp)
  have c17 : W1.cell? ⟨w.heap.size + 1, 7, none⟩ = some (.int .i64 v.gh) := cell_of_block zc1 7 (by simp)
  have c18 : W1.cell? ⟨w.heap.size + 1, 8, none⟩ = some (.int .i64 v.ol) := cell_of_block zc1 8 (by simp)
  have c19 : W1.cell? ⟨w.heap.size + 1, 9, none⟩ = some (.int .i64 v.oh) := cell_of_block zc1 9 (by simp)
  have c110 : W1.cell? ⟨w.heap.size + 1, 10, none⟩ = some (.int .i64 v.tl) := cell_of_block zc1 10 (by simp)
  have c111 : W1.cell? ⟨w.heap.size + 1, 11, none⟩ = some (.int .i64 v.th) := cell_of_block zc1 11 (by simp)
  have c112 : W1.cell? ⟨w.heap.size + 1, 12, none⟩ = some (.int .i64 v.c) := cell_of_block zc1 12 (by simp)
  have c20 : W1.cell? ⟨w.heap.size + 1 + 1, 0, none⟩ = some (.int .i64 ll) := cell_of_block zc2 0 (by simp)
  have c21 : W1.cell? ⟨w.heap.size + 1 + 1, 1, none⟩ = some (.int .i64 lh) := cell_of_block zc2 1 (by simp)
  have lc0 := (Array.getElem?_eq_some_iff.1 zc0).1
  have lc1 := (Array.getElem?_eq_some_iff.1 zc1).1
  have lc2 := (Array.getElem?_eq_some_iff.1 zc2).1
  have Zc0 := Lib.hid zc0
  have Zc1 := Lib.hid zc1
  have Zc2 := Lib.hid zc2
  clear zc0 zc1 zc2
  have HBc := Lib.hid hBc; clear hBc
  have HWc := Lib.hid hW1; clear hW1
  have FER := Lib.hid (fun W (hb : Below W1.heap.size W1 W) => rFerment_any aS k cS F G y v W ((hI.below HBc.out).below hb) hf ((hS.below HBc.out).below hb) hk)
  unfold Yst.val Vat.val at FER
  clear hI hS
  by_cases hl : lh < ll
  · have HE := Lib.hid (first_lim (y := y) (v := v) (k := k) (F := F) (G := G) hl)
    go_enter Try.func38, Try.ntmps38
    go_upto_region 1 with (fail)
    rw [HWc.out]
    go_wp2_with fail
    go_ret2
    exact fir_bad HE.out rfl HBc.out
  have HL := Lib.hid hl
  go_enter Try.func38, Try.ntmps38
  go_upto_region 1 with (fail)
  rw [HWc.out]
  go_wp2_with fail
  refine (FER.out _ (Below.refl _ _)).mono ?_
  rintro e u1 ⟨vl, rfl, hown, hb⟩
  have HU1 := Lib.hid hb; clear hb
  have SBu1 := Lib.hid (HU1.out)
  have Zyu1 := Lib.hid ((SBu1.out.block _ (Array.getElem?_eq_some_iff.1 Zc0.out).1).trans Zc0.out)
  have Zvu1 := Lib.hid ((SBu1.out.block _ (Array.getElem?_eq_some_iff.1 Zc1.out).1).trans Zc1.out)
  have Zlu1 := Lib.hid ((SBu1.out.block _ (Array.getElem?_eq_some_iff.1 Zc2.out).1).trans Zc2.out)
  have HBu1 := Lib.hid (thru SBu1.out HBc.out)
  have zsu1 := SBu1.out.size
  have el0u1 : u1.cell? ⟨w.heap.size + 1 + 1, 0, none⟩ = some (.int .i64 ll) := cell_of_block Zlu1.out 0 (by simp)
  have el1u1 : u1.cell? ⟨w.heap.size + 1 + 1, 1, none⟩ = some (.int .i64 lh) := cell_of_block Zlu1.out 1 (by simp)
  have llu1 := (Array.getElem?_eq_some_iff.1 Zlu1.out).1
  clear c00 c01 c02 c03 c04 c05 c06 c07 c10 c11 c12 c13 c14 c15 c16 c17 c18 c19 c110 c111 c112 c20 c21
  by_cases hE : ferE y v k F G = 0
  rotate_left
  · have hN : ferN y v k F G = 0 := if_neg hE
    rw [hN] at hown
    obtain ⟨a5, c5, rfl⟩ := own_form hown
    have HE := Lib.hid (first_fer (ll := ll) (lh := lh) (by have := HL.out; omega) hE)
    clear hown hN
    obtain ⟨E, hEE⟩ : ∃ E, ferE y v k F G = E := ⟨_, rfl⟩
    rw [hEE] at hE HE ⊢
    have ne : (E != 0) = true := by simpa using hE
    clear hE hEE
    go_wp2_with fail
    go_ret2
    exact fir_bad HE.out rfl HBu1.out
  have hN : ferN y v k F G = k := if_pos hE
  rw [hN] at hown
  rw [hE]
  obtain ⟨al, cl, rfl, hL⟩ := tups_of_own hown
  have HT := Lib.hid hL
  have HH := Lib.hid (fun i (hi : i < k) h1 h2 => first_hit (ll := ll) (lh := lh) (by have := HL.out; omega) hE (i := i) hi h1 h2); have HN := Lib.hid (first_none (ll := ll) (lh := lh) (by have := HL.out; omega) hE)
  clear hown hL hN hE
  go_wp2_with fail
  go_loopw [12] (fun i wr => ∃ j : Nat, j ≤ k ∧ i = .int .i64 j ∧ Hid (∀ t, t < j → inB' y v F G ll lh t = true) ∧ ∃ x, wr = gw u1 x) (fun i _ => k - (intOf i).toNat)
  case atStart => exact ⟨0, Nat.zero_le _, rfl, Lib.hid (fun t ht => absurd ht (Nat.not_lt_zero t)), ⟨#[], u1.drawn⟩, by simp [gw]⟩
  case round =>
    obtain ⟨j, hj, rfl, HP, x, rfl⟩ := hrel
    by_cases hlt : j < k
    · obtain ⟨b, off, rfl, lb, hc⟩ := HT.out.resolve_left (by omega)
      have d0 : u1.cell? ⟨b, off + j * 13 + 10, none⟩ = some (.int .i64 (y.vs v F G (j + 1)).tl) := hc j hlt 10 (by omega)
      have d1 : u1.cell? ⟨b, off + j * 13 + 11, none⟩ = some (.int .i64 (y.vs v F G (j + 1)).th) := hc j hlt 11 (by omega)
      clear hc
      have IB := Lib.hid (show inB' y v F G ll lh j = insB (y.vs v F G (j + 1)).tl (y.vs v F G (j + 1)).th ll lh from rfl)
      obtain ⟨t1, ht1⟩ : ∃ t, (y.vs v F G (j + 1)).tl = t := ⟨_, rfl⟩
      obtain ⟨t2, ht2⟩ : ∃ t, (y.vs v F G (j + 1)).th = t := ⟨_, rfl⟩
      rw [ht1] at d0 IB
      rw [ht2] at d1 IB
      clear ht1 ht2
      cases hp : insB t1 t2 ll lh with
      | false =>
        have RI := Lib.hid (fun W => hp ▸ rinside_any t1 t2 ll lh W)
        rw [hp] at IB
        clear hp
        go_wp2_with fail
        refine wp_region_gw2 (by kernel_rfl) (by kernel_rfl) ?_
        repeat (go_big_quiet_step (first | (go_at_call 73; with_reducible exact Calls.gw_of (RI.out _))))
        refine wpQuiet_nil ?_
        rintro _ ⟨z, rfl⟩
        go_wp2_with fail
        go_ret2
        exact fir_bad (HH.out j hlt HP.out IB.out) rfl (HBu1.out.gw z)
      | true =>
        have RI := Lib.hid (fun W => hp ▸ rinside_any t1 t2 ll lh W)
        rw [hp] at IB
        clear hp
        go_wp2_with fail
        refine wp_region_gw2 (by kernel_rfl) (by kernel_rfl) ?_
        repeat (go_big_quiet_step (first | (go_at_call 73; with_reducible exact Calls.gw_of (RI.out _))))
        refine wpQuiet_nil ?_
        rintro _ ⟨z, rfl⟩
        go_wp2_with fail
        go_roundw
        case rel => exact ⟨j + 1, by omega, by go_num, Lib.hid (all_succ (P := fun i => inB' y v F G ll lh i = true) HP.out IB.out), z, rfl⟩
        case measure => simp [intOf]; omega
    · obtain rfl : j = k := by omega
      have HE := HN.out HP.out
      go_wp2_with fail
      go_ret2
      exact fir_bad HE rfl (HBu1.out.gw x)
end Go.Proofs.Ytecbacbecopbeaa
