/- Contracts of Ferment and Hour. No conditions beyond each theorem's own. -/
import Derived.Test.YtfefmgadfklgmaaBn
set_option linter.unusedVariables false
set_option linter.unusedSimpArgs false
set_option linter.unusedSectionVars false
set_option linter.constructorNameAsVariable false
namespace Go.Proofs.Ytfefmgadfklgmaa
open Go.RowKit

attribute [local go_sem] gw_cell gw_frozen gw_size

/-- how many of the first are as they should be -/
def okN (p : Nat → Bool) : Nat → Nat
  | 0 => 0
  | k + 1 => if okN p k = k ∧ p k = true then k + 1 else okN p k
theorem okN_le (p : Nat → Bool) : ∀ k, okN p k ≤ k
  | 0 => Nat.le_refl _
  | k + 1 => by unfold okN; have := okN_le p k; split <;> omega
theorem okN_lt (p : Nat → Bool) : ∀ k j, j < okN p k → p j = true
  | 0, j, h => by simp [okN] at h
  | k + 1, j, h => by
    unfold okN at h
    split at h
    · rename_i hc
      by_cases e : j = k
      · rw [e]; exact hc.2
      · exact okN_lt p k j (by rw [hc.1]; omega)
    · exact okN_lt p k j h
theorem okN_bad (p : Nat → Bool) : ∀ k, okN p k < k → p (okN p k) = false
  | 0, h => by simp at h
  | k + 1, h => by
    unfold okN at h ⊢
    split
    · rename_i hc; simp only [hc, and_self, if_true] at h; omega
    · rename_i hc
      simp only [hc, if_false] at h
      by_cases e : okN p k = k
      · rw [e]
        cases hp : p k with
        | false => rfl
        | true => exact absurd ⟨e, hp⟩ hc
      · exact okN_bad p k (by have := okN_le p k; omega)
def Yst.stop (y : Yst) (v : Vat) (F G : Nat → Int) (k : Nat) : Nat := okN (fun j => vatB (y.vs v F G (j + 1))) k
/-- the error of Ferment -/
def ferE (y : Yst) (v : Vat) (k : Nat) (F G : Nat → Int) : Int :=
  if 200 < k then 3 else if ystB y = true ∧ vatB v = true ∧ allB k (inSp 150000 F G) = true then (if y.stop v F G k < k then 12 else 0) else 1
def ferN (y : Yst) (v : Vat) (k : Nat) (F G : Nat → Int) : Nat := if ferE y v k F G = 0 then k else 0
theorem ferE_zero {y : Yst} {v : Vat} {k : Nat} {F G : Nat → Int} (h : ferE y v k F G = 0) : k ≤ 200 ∧ ystB y = true ∧ vatB v = true ∧ allB k (inSp 150000 F G) = true ∧ ∀ j, j ≤ k → vatB (y.vs v F G j) = true := by
  unfold ferE at h
  split at h
  · omega
  · split at h
    · rename_i h1 h2
      split at h
      · omega
      · rename_i h3
        have hl := okN_le (fun j => vatB (y.vs v F G (j + 1))) k
        have he : y.stop v F G k = k := by unfold Yst.stop at *; omega
        refine ⟨by omega, h2.1, h2.2.1, h2.2.2, fun j hj => ?_⟩
        cases j with
        | zero => exact h2.2.1
        | succ i => exact okN_lt (fun j => vatB (y.vs v F G (j + 1))) k i (by unfold Yst.stop at he; omega)
    · omega

/-- what Ferment hands back -/
def FerR (y : Yst) (v : Vat) (k : Nat) (F G : Nat → Int) (w : World) (e : Ending) (w' : World) : Prop :=
  ∃ vl, e = .returned (.tuple #[vl, .int .i64 (ferE y v k F G)]) ∧ w'.ownsRow w.heap.size 53 13 vl (ferN y v k F G) (y.outs v F G (ferN y v k F G)) ∧ Below w.heap.size w w'
theorem fer_bad {y : Yst} {v : Vat} {k : Nat} {F G : Nat → Int} {w w' : World} {x : Int} {e : Ending} (h : ferE y v k F G = x) (hx : x ≠ 0) (he : e = .returned (.tuple #[.slice none 0 0, .int .i64 x])) (hb : Below w.heap.size w w') : FerR y v k F G w e w' := by
  have hN : ferN y v k F G = 0 := by unfold ferN; rw [h, if_neg hx]
  refine ⟨_, by rw [h]; exact he, ?_, hb⟩
  rw [hN]
  exact World.ownsRow_nil _ _ _ _

set_option maxRecDepth 100000 in
set_option maxHeartbeats 4000000 in
theorem Ferment_any (aC : Option Addr) (k cC : Nat) (F G : Nat → Int) (y : Yst) (v : Vat) (w : World) (hI : y.In w) (hf : y.Fits) (hC : SpansAt w aC k F G) (hk : k ≤ 9223372036854775807) :
    Calls Try.prog 11 #[y.val, v.val, .slice aC k cC] w (FerR y v k F G w) := by
  by_cases hok : k ≤ 200 ∧ ystB y = true ∧ vatB v = true ∧ allB k (inSp 150000 F G) = true
  · obtain ⟨h1, h2, h3, h4⟩ := hok
    have hm := okN_le (fun j => vatB (y.vs v F G (j + 1))) k
    have hgo := okN_lt (fun j => vatB (y.vs v F G (j + 1))) k
    have hst := okN_bad (fun j => vatB (y.vs v F G (j + 1))) k
    refine (callsIn_wide.1 (ferMain_in 3 aC k cC F G y v _ (Nat.le_refl _) w hI hf h2 h3 hC h4 h1 hm hgo hst)).mono ?_
    rintro e w' ⟨hb, ⟨e1, vl, rfl, hown⟩ | ⟨e1, rfl⟩⟩
    · have hE : ferE y v k F G = 0 := by unfold ferE; rw [if_neg (by omega), if_pos ⟨h2, h3, h4⟩, if_neg (by unfold Yst.stop; omega)]
      refine ⟨vl, by rw [hE], ?_, hb⟩
      have hN : ferN y v k F G = k := by unfold ferN; rw [if_pos hE]
      rw [hN]; exact hown
    · have hE : ferE y v k F G = 12 := by unfold ferE; rw [if_neg (by omega), if_pos ⟨h2, h3, h4⟩, if_pos (by unfold Yst.stop; omega)]
      exact fer_bad hE (by decide) rfl hb
  rw [show y.val = .agg #[.slice y.aT y.nT y.cT, .slice y.aR y.nR y.cR, .int .i64 y.sl, .int .i64 y.sh, .int .i64 y.gl, .int .i64 y.gh, .int .i64 y.hl, .int .i64 y.hh] from rfl, show v.val = .agg #[.int .i64 v.sl, .int .i64 v.sh, .int .i64 v.el, .int .i64 v.eh, .int .i64 v.pl, .int .i64 v.ph, .int .i64 v.gl, .int .i64 v.gh, .int .i64 v.ol, .int .i64 v.oh, .int .i64 v.tl, .int .i64 v.th, .int .i64 v.c] from rfl]
  obtain ⟨W1, hW1⟩ : ∃ W1, (((w.alloc (.cells #[.slice y.aT y.nT y.cT, .slice y.aR y.nR y.cR, .int .i64 y.sl, .int .i64 y.sh, .int .i64 y.gl, .int .i64 y.gh, .int .i64 y.hl, .int .i64 y.hh] 32)).alloc (.cells #[.int .i64 v.sl, .int .i64 v.sh, .int .i64 v.el, .int .i64 v.eh, .int .i64 v.pl, .int .i64 v.ph, .int .i64 v.gl, .int .i64 v.gh, .int .i64 v.ol, .int .i64 v.oh, .int .i64 v.tl, .int .i64 v.th, .int .i64 v.c] 53)).alloc (.cells #[.slice none 0 0] 54)).alloc (.cells #[.int .i64 0] 44) = W1 := ⟨_, rfl⟩
  have hBc : Below w.heap.size w W1 := by rw [← hW1]; exact (((below_alloc _ _).alloc (by simp) _).alloc (by simp <;> omega) _).alloc (by simp <;> omega) _
  have zc0 : W1.heap[w.heap.size]? = some (.cells #[.slice y.aT y.nT y.cT, .slice y.aR y.nR y.cR, .int .i64 y.sl, .int .i64 y.sh, .int .i64 y.gl, .int .i64 y.gh, .int .i64 y.hl, .int .i64 y.hh] 32 (0, 0)) := by rw [← hW1]; exact alloc_keep (alloc_keep (alloc_keep (alloc_at rfl)))
  have zc1 : W1.heap[w.heap.size + 1]? = some (.cells #[.int .i64 v.sl, .int .i64 v.sh, .int .i64 v.el, .int .i64 v.eh, .int .i64 v.pl, .int .i64 v.ph, .int .i64 v.gl, .int .i64 v.gh, .int .i64 v.ol, .int .i64 v.oh, .int .i64 v.tl, .int .i64 v.th, .int .i64 v.c] 53 (0, 0)) := by rw [← hW1]; exact alloc_keep (alloc_keep (alloc_at (by simp)))
  have zc2 : W1.heap[w.heap.size + 1 + 1]? = some (.cells #[.slice none 0 0] 54 (0, 0)) := by rw [← hW1]; exact alloc_keep (alloc_at (by simp <;> omega))
  have zc3 : W1.heap[w.heap.size + 1 + 1 + 1]? = some (.cells #[.int .i64 0] 44 (0, 0)) := by rw [← hW1]; exact alloc_at (by simp <;> omega)
  have c00 : W1.cell? ⟨w.heap.size, 0, none⟩ = some (.slice y.aT y.nT y.cT) := cell_of_block zc0 0 (by simp)
  have c01 : W1.cell? ⟨w.heap.size, 1, none⟩ = some (.slice y.aR y.nR y.cR) := cell_of_block zc0 1 (by simp)
  have c02 : W1.cell? ⟨w.heap.size, 2, none⟩ = some (.int .i64 y.sl) := cell_of_block zc0 2 (by simp)
  have c03 : W1.cell? ⟨w.heap.size, 3, none⟩ = some (.int .i64 y.sh) := cell_of_block zc0 3 (by simp)
  have c04 : W1.cell? ⟨w.heap.size, 4, none⟩ = some (.int .i64 y.gl) := cell_of_block zc0 4 (by simp)
  have c05 : W1.cell? ⟨w.heap.size, 5, none⟩ = some (.int .i64 y.gh) := cell_of_block zc0 5 (by simp)
  have c06 : W1.cell? ⟨w.heap.size, 6, none⟩ = some (.int .i64 y.hl) := cell_of_block zc0 6 (by simp)
  have c07 : W1.cell? ⟨w.heap.size, 7, none⟩ = some (.int .i64 y.hh) := cell_of_block zc0 7 (by simp)
  have c10 : W1.cell? ⟨w.heap.size + 1, 0, none⟩ = some (.int .i64 v.sl) := cell_of_block zc1 0 (by simp)
  have c11 : W1.cell? ⟨w.heap.size + 1, 1, none⟩ = some (.int .i64 v.sh) := cell_of_block zc1 1 (by simp)
  have c12 : W1.cell? ⟨w.heap.size + 1, 2, none⟩ = some (.int .i64 v.el) := cell_of_block zc1 2 (by simp)
  have c13 : W1.cell? ⟨w.heap.size + 1, 3, none⟩ = some (.int .i64 v.eh) := cell_of_block zc1 3 (by simp)
  have c14 : W1.cell? ⟨w.heap.size + 1, 4, none⟩ = some (.int .i64 v.pl) := cell_of_block zc1 4 (by simp)
  have c15 : W1.cell? ⟨w.heap.size + 1, 5, none⟩ = some (.int .i64 v.ph) := cell_of_block zc1 5 (by simp)
  have c16 : W1.cell? ⟨w.heap.size + 1, 6, none⟩ = some (.int .i64 v.gl) := cell_of_block zc1 6 (by simp)
  have c17 : W1.cell? ⟨w.heap.size + 1, 7, none⟩ = some (.int .i64 v.gh) := cell_of_block zc1 7 (by simp)
  have c18 : W1.cell? ⟨w.heap.size + 1, 8, none⟩ = some (.int .i64 v.ol) := cell_of_block zc1 8 (by simp)
  have c19 : W1.cell? ⟨w.heap.size + 1, 9, none⟩ = some (.int .i64 v.oh) := cell_of_block zc1 9 (by simp)
  have c110 : W1.cell? ⟨w.heap.size + 1, 10, none⟩ = some (.int .i64 v.tl) := cell_of_block zc1 10 (by simp)
  have c111 : W1.cell? ⟨w.heap.size + 1, 11, none⟩ = some (.int .i64 v.th) := cell_of_block zc1 11 (by simp)
  have c112 : W1.cell? ⟨w.heap.size + 1, 12, none⟩ = some (.int .i64 v.c) := cell_of_block zc1 12 (by simp)
  have c20 : W1.cell? ⟨w.heap.size + 1 + 1, 0, none⟩ = some (.slice none 0 0) := cell_of_block zc2 0 (by simp)
  have c30 : W1.cell? ⟨w.heap.size + 1 + 1 + 1, 0, none⟩ = some (.int .i64 0) := cell_of_block zc3 0 (by simp)
  have lc0 := (Array.getElem?_eq_some_iff.1 zc0).1
  have lc1 := (Array.getElem?_eq_some_iff.1 zc1).1
  have lc2 := (Array.getElem?_eq_some_iff.1 zc2).1
  have lc3 := (Array.getElem?_eq_some_iff.1 zc3).1
  have fc20 := frozen_of_block zc2 0
  have fc30 := frozen_of_block zc3 0
  have Zc0 := Lib.hid zc0
  have Zc1 := Lib.hid zc1
  have Zc2 := Lib.hid zc2
  have Zc3 := Lib.hid zc3
  clear zc0 zc1 zc2 zc3
  have HBc := Lib.hid hBc; clear hBc
  have HWc := Lib.hid hW1; clear hW1
  have HI := Lib.hid (hI.below HBc.out); clear hI
  have HC := Lib.hid (hC.below HBc.out); clear hC
  by_cases h64 : 200 < k
  · have HE := Lib.hid (show ferE y v k F G = 3 by unfold ferE; rw [if_pos h64]); clear hok
    go_enter Try.func11, Try.ntmps11
    go_upto_region 1 with (fail)
    rw [HWc.out]
    go_wp2_with fail
    refine bodyPost_ret (v := .tuple #[.slice none 0 0, .int .i64 3]) (by simp [results, Try.results11, go_sem, *]) rfl (fer_bad HE.out (by decide) rfl ?_)
    exact ((HBc.out).setCell (by simp <;> omega) _).setCell (by simp <;> omega) _
  · have IY := fun b (h : ystB y = b) => isYeast_b y W1 HI.out hf h
    unfold Yst.val at IY
    have IV := fun b (h : vatB v = b) W => isVat_b v W h
    unfold Vat.val at IV
    have IC := fun W (hb : Below W1.heap.size W1 W) => areCoolings_any aC k cC F G W hk (HC.out.below hb)
    cases h1 : ystB y with
    | false =>
      have HE := Lib.hid (show ferE y v k F G = 1 by unfold ferE; rw [if_neg h64, if_neg (by rw [h1]; simp)]); clear hok
      have JY := Lib.hid (IY _ h1); clear IY IV IC h1
      go_enter Try.func11, Try.ntmps11
      go_upto_region 1 with (fail)
      rw [HWc.out]
      go_wp2_with fail
      refine (Calls.grown (JY.out)).mono ?_
      rintro e w1 ⟨rfl, z1, rfl⟩
      go_wp2_with fail
      refine bodyPost_ret (v := .tuple #[.slice none 0 0, .int .i64 1]) (by simp [results, Try.results11, go_sem, *]) rfl (fer_bad HE.out (by decide) rfl ?_)
      exact ((HBc.out.gw z1).setCell (by simp <;> omega) _).setCell (by simp <;> omega) _
    | true =>
      cases h2 : vatB v with
      | false =>
        have HE := Lib.hid (show ferE y v k F G = 1 by unfold ferE; rw [if_neg h64, if_neg (by rw [h2]; simp)]); clear hok
        have JY := Lib.hid (IY _ h1); have JV := Lib.hid (IV _ h2); clear IY IV IC h1 h2
        go_enter Try.func11, Try.ntmps11
        go_upto_region 1 with (fail)
        rw [HWc.out]
        go_wp2_with fail
        refine (Calls.grown (JY.out)).mono ?_
        rintro e w1 ⟨rfl, z1, rfl⟩
        go_wp2_with fail
        refine (Calls.gw_of (JV.out _)).mono ?_
        rintro e w1 ⟨rfl, z2, rfl⟩
        go_wp2_with fail
        refine bodyPost_ret (v := .tuple #[.slice none 0 0, .int .i64 1]) (by simp [results, Try.results11, go_sem, *]) rfl (fer_bad HE.out (by decide) rfl ?_)
        exact ((HBc.out.gw z2).setCell (by simp <;> omega) _).setCell (by simp <;> omega) _
      | true =>
        cases h3 : allB k (inSp 150000 F G) with
        | false =>
          have HE := Lib.hid (show ferE y v k F G = 1 by unfold ferE; rw [if_neg h64, if_neg (by rw [h3]; simp)]); clear hok
          rw [h3] at IC
          have JY := Lib.hid (IY _ h1); have JV := Lib.hid (IV _ h2); have JC := Lib.hid IC; clear IY IV IC h1 h2 h3
          go_enter Try.func11, Try.ntmps11
          go_upto_region 1 with (fail)
          rw [HWc.out]
          go_wp2_with fail
          refine (Calls.grown (JY.out)).mono ?_
          rintro e w1 ⟨rfl, z1, rfl⟩
          go_wp2_with fail
          refine (Calls.gw_of (JV.out _)).mono ?_
          rintro e w1 ⟨rfl, z2, rfl⟩
          go_wp2_with fail
          refine (Calls.gw_of (JC.out _ (below_gw W1 _))).mono ?_
          rintro e w1 ⟨rfl, z3, rfl⟩
          go_wp2_with fail
          refine bodyPost_ret (v := .tuple #[.slice none 0 0, .int .i64 1]) (by simp [results, Try.results11, go_sem, *]) rfl (fer_bad HE.out (by decide) rfl ?_)
          exact ((HBc.out.gw z3).setCell (by simp <;> omega) _).setCell (by simp <;> omega) _
        | true => exact absurd ⟨by omega, h1, h2, h3⟩ hok

end Go.Proofs.Ytfefmgadfklgmaa
