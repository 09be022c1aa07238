/- WashCheapest walked: it returns true. No conditions beyond each theorem's own. -/
import Derived.Test.YtecbacbecopbeaaCk
import Derived.Test.YtecbacbecopbeaaCn
import Derived.Test.YtecbacbecopbeaaCf
import Derived.Test.YtecbacbecopbeaaBq
import Derived.Test.YtecbacbecopbeaaAe
import Derived.Test.YtecbacbecopbeaaAg
set_option linter.unusedVariables false
set_option linter.unusedSimpArgs false
set_option linter.unusedSectionVars false
set_option linter.constructorNameAsVariable false
namespace Go.Proofs.Ytecbacbecopbeaa
open Go.RowKit

attribute [local go_sem] gw_cell gw_frozen gw_size

theorem noPanic_now {Q : Exit → Act → World → Prop} {a : Act} {w : World} (h : Q .normal a w) : noPanic Q .normal a w := h
theorem firstS_hit {P : Nat → Option (List Nat)} {r : List Nat} {t : Nat} : ∀ {n}, t < n → P t = some r → firstS P n ≠ none
  | 0, h, _ => by omega
  | n + 1, h, hp => by
    unfold firstS
    cases hf : firstS P n with
    | some l => simp
    | none =>
      by_cases e : t = n
      · subst e; simp [hp]
      · exact absurd hf (firstS_hit (by omega) hp)
theorem firstS_some {P : Nat → Option (List Nat)} {l : List Nat} : ∀ {n}, firstS P n = some l → ∃ s, s < n ∧ P s = some l ∧ ∀ t, t < s → P t = none
  | 0, h => by simp [firstS] at h
  | n + 1, h => by
    unfold firstS at h
    cases hf : firstS P n with
    | some l' =>
      rw [hf] at h
      simp only [Option.some.injEq] at h
      subst h
      obtain ⟨s, h1, h2, h3⟩ := firstS_some hf
      exact ⟨s, by omega, h2, h3⟩
    | none =>
      rw [hf] at h
      refine ⟨n, by omega, h, fun t ht => ?_⟩
      cases hp : P t with
      | none => rfl
      | some r => exact absurd hf (firstS_hit ht hp)
structure Fine (c : Ctx) (v : Vat) (n : Int) (H : Nat) : Prop where
  e : n = H
  y : ystB c.y = true
  v : vatB v = true
  s : ∀ i, i < c.k → inSp 150000 c.F c.G i = true
  l : ¬ c.lh < c.ll
  k : 1 ≤ c.k ∧ c.k ≤ 4
  h : H ≤ 6
theorem cool_zero {c : Ctx} {v : Vat} {n : Int} (h : c.coolE v n = 0) : ∃ H L, Fine c v n H ∧ c.coolL v n = L ∧ L.length = H ∧ c.run v L ∧ (∀ l, l.length = H → c.run v l → L.sum ≤ l.sum) ∧ (∀ l, l.length = H → c.run v l → l.sum = L.sum → ∀ i, i < H → (∀ t, t < i → L.getD t 0 = l.getD t 0) → L.getD i 0 ≤ l.getD i 0) := by
  have h0 := h
  unfold Ctx.coolE at h
  split at h
  · rename_i hg
    split at h
    · rename_i hr
      split at h
      · cases h
      · rename_i hn
        have k1 := inB_t.1 hr.1
        have k2 := inB_t.1 hr.2
        cases hc : c.cool v n.toNat with
        | none => exact absurd hc hn
        | some L =>
          obtain ⟨s, h1, h2, h3⟩ := firstS_some hc
          obtain ⟨g1, g2, g3⟩ := cools_some c _ _ _ _ h2
          refine ⟨n.toNat, L, ⟨by omega, hg.1, hg.2.1, allB_t.1 hg.2.2.1, hg.2.2.2, by omega, by omega⟩, ?_, g1, g3, fun l hl hr => ?_, fun l hl hr hs => cools_lex c _ _ _ L l h2 hr hl (by rw [hs, g2])⟩
          · unfold Ctx.coolL; rw [if_pos h0, hc]; rfl
          · rw [g2]
            rcases Nat.lt_or_ge l.sum s with hlt | hge
            · exact absurd hr (cools_none c _ _ _ (h3 _ hlt) l hl rfl)
            · exact hge
    · cases h
  · cases h
theorem cool_four {c : Ctx} {v : Vat} {n : Int} (h : c.coolE v n = 4) : ∃ H, Fine c v n H ∧ c.coolL v n = [] ∧ ∀ l, l.length = H → ¬ c.run v l := by
  have h0 := h
  unfold Ctx.coolE at h
  split at h
  · rename_i hg
    split at h
    · rename_i hr
      split at h
      · rename_i hn
        have k1 := inB_t.1 hr.1
        have k2 := inB_t.1 hr.2
        refine ⟨n.toNat, ⟨by omega, hg.1, hg.2.1, allB_t.1 hg.2.2.1, hg.2.2.2, by omega, by omega⟩, by unfold Ctx.coolL; rw [h0]; rfl, fun l hl hr => ?_⟩
        have h1 := run_sum c v l hr
        have h2 : n.toNat * (c.k - 1) + n.toNat = n.toNat * c.k := by rw [← Nat.mul_succ]; congr 1; omega
        rw [hl] at h1
        cases hp : c.cools n.toNat v l.sum with
        | none => exact cools_none c _ _ _ hp l hl rfl hr
        | some r => exact firstS_hit (show l.sum < n.toNat * (c.k - 1) + 1 by omega) hp hn
      · cases h
    · cases h
  · cases h
theorem coolL_nil {c : Ctx} {v : Vat} {n : Int} (h : c.coolE v n ≠ 0) : c.coolL v n = [] := if_neg h

set_option maxRecDepth 100000 in
set_option maxHeartbeats 32000000 in
theorem cheapest_any (c : Ctx) (v : Vat) (aS : Option Addr) (cS : Nat) (n : Int) (aB : Option Addr) (nB cB : Nat) (U : Nat → Int) (w : World) (hI : c.y.In w) (hf : c.y.Fits) (hS : SpansAt w aS c.k c.F c.G) (hk : c.k ≤ 9223372036854775807)
    (hU : NumsAt .u8 w aB nB U) (hu : ∀ i, i < nB → 0 ≤ U i ∧ U i ≤ 255) (hm : nB ≤ 9223372036854775807) :
    Calls Try.prog 13 #[c.y.val, v.val, .slice aS c.k cS, .int .i64 n, .agg #[.int .i64 c.ll, .int .i64 c.lh], .slice aB nB cB] w (True1 w) := by
  have hmf : ∀ (fn : Fn) (first cap : Array Value) (w : World), (Instr.makeFunc fn first cap).run Try.prog w = .ok (.func fn first cap) w := fun _ _ _ _ => rfl
  unfold Yst.val Vat.val
  obtain ⟨W1, hW1⟩ : ∃ W1, (((w.alloc (.cells #[.slice c.y.aT c.y.nT c.y.cT, .slice c.y.aR c.y.nR c.y.cR, .int .i64 c.y.sl, .int .i64 c.y.sh, .int .i64 c.y.gl, .int .i64 c.y.gh, .int .i64 c.y.hl, .int .i64 c.y.hh] 36)).alloc (.cells #[.int .i64 v.sl, .int .i64 v.sh, .int .i64 v.el, .int .i64 v.eh, .int .i64 v.pl, .int .i64 v.ph, .int .i64 v.gl, .int .i64 v.gh, .int .i64 v.ol, .int .i64 v.oh, .int .i64 v.tl, .int .i64 v.th, .int .i64 v.c] 38)).alloc (.cells #[.slice aS c.k cS] 34)).alloc (.cells #[.int .i64 c.ll, .int .i64 c.lh] 23) = W1 := ⟨_, rfl⟩
  have hBc : Below w.heap.size w W1 := by rw [← hW1]; exact (((below_alloc _ _).alloc (by simp) _).alloc (by simp <;> omega) _).alloc (by simp <;> omega) _
  have zc0 : W1.heap[w.heap.size]? = some (.cells #[.slice c.y.aT c.y.nT c.y.cT, .slice c.y.aR c.y.nR c.y.cR, .int .i64 c.y.sl, .int .i64 c.y.sh, .int .i64 c.y.gl, .int .i64 c.y.gh, .int .i64 c.y.hl, .int .i64 c.y.hh] 36 (0, 0)) := by rw [← hW1]; exact alloc_keep (alloc_keep (alloc_keep (alloc_at rfl)))
  have zc1 : W1.heap[w.heap.size + 1]? = some (.cells #[.int .i64 v.sl, .int .i64 v.sh, .int .i64 v.el, .int .i64 v.eh, .int .i64 v.pl, .int .i64 v.ph, .int .i64 v.gl, .int .i64 v.gh, .int .i64 v.ol, .int .i64 v.oh, .int .i64 v.tl, .int .i64 v.th, .int .i64 v.c] 38 (0, 0)) := by rw [← hW1]; exact alloc_keep (alloc_keep (alloc_at (by simp)))
  have zc2 : W1.heap[w.heap.size + 1 + 1]? = some (.cells #[.slice aS c.k cS] 34 (0, 0)) := by rw [← hW1]; exact alloc_keep (alloc_at (by simp <;> omega))
  have zc3 : W1.heap[w.heap.size + 1 + 1 + 1]? = some (.cells #[.int .i64 c.ll, .int .i64 c.lh] 23 (0, 0)) := by rw [← hW1]; exact alloc_at (by simp <;> omega)
  have c00 : W1.cell? ⟨w.heap.size, 0, none⟩ = some (.slice c.y.aT c.y.nT c.y.cT) := cell_of_block zc0 0 (by simp)
  have c01 : W1.cell? ⟨w.heap.size, 1, none⟩ = some (.slice c.y.aR c.y.nR c.y.cR) := cell_of_block zc0 1 (by simp)
  have c02 : W1.cell? ⟨w.heap.size, 2, none⟩ = some (.int .i64 c.y.sl) := cell_of_block zc0 2 (by simp)
  have c03 : W1.cell? ⟨w.heap.size, 3, none⟩ = some (.int .i64 c.y.sh) := cell_of_block zc0 3 (by simp)
  have c04 : W1.cell? ⟨w.heap.size, 4, none⟩ = some (.int .i64 c.y.gl) := cell_of_block zc0 4 (by simp)
  have c05 : W1.cell? ⟨w.heap.size, 5, none⟩ = some (.int .i64 c.y.gh) := cell_of_block zc0 5 (by simp)
  have c06 : W1.cell? ⟨w.heap.size, 6, none⟩ = some (.int .i64 c.y.hl) := cell_of_block zc0 6 (by simp)
  have c07 : W1.cell? ⟨w.heap.size, 7, none⟩ = some (.int .i64 c.y.hh) := cell_of_block zc0 7 (by simp)
  have c10 : W1.cell? ⟨w.heap.size + 1, 0, none⟩ = some (.int .i64 v.sl) := cell_of_block zc1 0 (by simp)
  have c11 : W1.cell? ⟨w.heap.size + 1, 1, none⟩ = some (.int .i64 v.sh) := cell_of_block zc1 1 (by simp)
  have c12 : W1.cell? ⟨w.heap.size + 1, 2, none⟩ = some (.int .i64 v.el) := cell_of_block zc1 2 (by simp)
  have c13 : W1.cell? ⟨w.heap.size + 1, 3, none⟩ = some (.int .i64 v.eh) := cell_of_block zc1 3 (by simp)
  have c14 : W1.cell? ⟨w.heap.size + 1, 4, none⟩ = some (.int .i64 v.pl) := cell_of_block zc1 4 (by simp)
  have c15 : W1.cell? ⟨w.heap.size + 1, 5, none⟩ = some (.int .i64 v.ph) := cell_of_block zc1 5 (by simp)
  have c16 : W1.cell? ⟨w.heap.size + 1, 6, none⟩ = some (.int .i64 v.gl) := cell_of_block zc1 6 (by simp)
  have c17 : W1.cell? ⟨w.heap.size + 1, 7, none⟩ = some (.int .i64 v.gh) := cell_of_block zc1 7 (by simp)
  have c18 : W1.cell? ⟨w.heap.size + 1, 8, none⟩ = some (.int .i64 v.ol) := cell_of_block zc1 8 (by simp)
  have c19 : W1.cell? ⟨w.heap.size + 1, 9, none⟩ = some (.int .i64 v.oh) := cell_of_block zc1 9 (by simp)
  have c110 : W1.cell? ⟨w.heap.size + 1, 10, none⟩ = some (.int .i64 v.tl) := cell_of_block zc1 10 (by simp)
  have c111 : W1.cell? ⟨w.heap.size + 1, 11, none⟩ = some (.int .i64 v.th) := cell_of_block zc1 11 (by simp)
  have c112 : W1.cell? ⟨w.heap.size + 1, 12, none⟩ = some (.int .i64 v.c) := cell_of_block zc1 12 (by simp)
  have c20 : W1.cell? ⟨w.heap.size + 1 + 1, 0, none⟩ = some (.slice aS c.k cS) := cell_of_block zc2 0 (by simp)
  have c30 : W1.cell? ⟨w.heap.size + 1 + 1 + 1, 0, none⟩ = some (.int .i64 c.ll) := cell_of_block zc3 0 (by simp)
  have c31 : W1.cell? ⟨w.heap.size + 1 + 1 + 1, 1, none⟩ = some (.int .i64 c.lh) := cell_of_block zc3 1 (by simp)
  have lc0 := (Array.getElem?_eq_some_iff.1 zc0).1
  have lc1 := (Array.getElem?_eq_some_iff.1 zc1).1
  have lc2 := (Array.getElem?_eq_some_iff.1 zc2).1
  have lc3 := (Array.getElem?_eq_some_iff.1 zc3).1
  have Zc0 := Lib.hid zc0
  have Zc1 := Lib.hid zc1
  have Zc2 := Lib.hid zc2
  have Zc3 := Lib.hid zc3
  clear zc0 zc1 zc2 zc3
  have HBc := Lib.hid hBc; clear hBc
  have HWc := Lib.hid hW1; clear hW1
  have CO := fun W (hb : Below W1.heap.size W1 W) => Cool_any c aS cS v n W ((hI.below HBc.out).below hb) hf ((hS.below HBc.out).below hb) hk
  unfold CoolR at CO
  unfold Yst.val Vat.val at CO
  have CO' := Lib.hid CO; clear CO
  have FIX := Lib.hid (fun W (hb : Below W1.heap.size W1 W) (a : Option Addr) (cp : Nat) (l : List Nat) (hl : l.length ≤ 100) (hT : SpansAt W a l.length (c.chF l) (c.chG l)) => First_any a l.length cp (c.chF l) (c.chG l) c.y v c.ll c.lh W ((hI.below HBc.out).below hb) hf hT (by omega))
  unfold FirR Yst.val Vat.val at FIX
  have HI := Lib.hid (hI.below HBc.out); have HS := Lib.hid (hS.below HBc.out); have HU := Lib.hid (hU.below HBc.out); have HV := Lib.hid hu; clear hI hS hU hu
  have CCX := Lib.hid (fun W (hb : Below W1.heap.size W1 W) (a : Option Addr) (cp : Nat) (l : List Nat) (hl : IntsAt W a l.length (fun i => ((l.getD i 0 : Nat) : Int))) (h1 : l.length ≤ 100) (h2 : ∀ i, i < l.length → l.getD i 0 < c.k) (h3 : c.k ≤ 1000) => ccools_any (w.heap.size + 1 + 1) aS c.k cS c.F c.G a cp l W ((hb.block _ (Array.getElem?_eq_some_iff.1 Zc2.out).1).trans Zc2.out) (HS.out.below hb) hl h1 h2 h3)
  by_cases n1 : 20 < c.y.nT
  · skip
    go_enter Try.func13, Try.ntmps13
    go_upto_region 1 with (fail)
    rw [HWc.out]
    go_wp2_with fail
    refine (Calls.grown (alive_any _)).mono ?_
    rintro e w1 ⟨rfl, z1, rfl⟩
    go_wp2_with fail
    go_ret
    exact ⟨rfl, HBc.out.gw z1⟩
  by_cases n2 : 21 < c.y.nR
  · skip
    go_enter Try.func13, Try.ntmps13
    go_upto_region 1 with (fail)
    rw [HWc.out]
    go_wp2_with fail
    refine (Calls.grown (alive_any _)).mono ?_
    rintro e w1 ⟨rfl, z1, rfl⟩
    go_wp2_with fail
    go_ret
    exact ⟨rfl, HBc.out.gw z1⟩
  by_cases n3 : 10 < c.k
  · skip
    go_enter Try.func13, Try.ntmps13
    go_upto_region 1 with (fail)
    rw [HWc.out]
    go_wp2_with fail
    refine (Calls.grown (alive_any _)).mono ?_
    rintro e w1 ⟨rfl, z1, rfl⟩
    go_wp2_with fail
    go_ret
    exact ⟨rfl, HBc.out.gw z1⟩
  by_cases n4 : nB = 0
  · subst n4
    go_enter Try.func13, Try.ntmps13
    go_upto_region 1 with (fail)
    rw [HWc.out]
    go_wp2_with fail
    refine (Calls.grown (alive_any _)).mono ?_
    rintro e w1 ⟨rfl, z1, rfl⟩
    go_wp2_with fail
    go_ret
    exact ⟨rfl, HBc.out.gw z1⟩
  have n5 : ((nB : Int) == 0) = false := by simp; omega
  obtain ⟨i0, hi0, hx0, hx1, hx2⟩ := info_parts infoInt
  have II := Lib.hid hi0; have IZ0 := Lib.hid hx0; have IZ1 := Lib.hid hx1; have IZ2 := Lib.hid hx2; clear hi0 hx0 hx1 hx2
  obtain ⟨E, hE⟩ : ∃ E, c.coolE v n = E := ⟨_, rfl⟩
  by_cases h0 : E = 0
  rotate_left
  · by_cases h4 : E = 4
    rotate_left
    · have hL := coolL_nil (c := c) (v := v) (n := n) (by rw [hE]; exact h0)
      rw [hL, hE] at CO'
      have ne0 : (E != 0) = true := by simpa using h0
      have ne4 : (E != 4) = true := by simpa using h4
      clear hL hE h0 h4
      go_enter Try.func13, Try.ntmps13
      go_upto_region 1 with (fail)
      rw [HWc.out]
      go_wp2_with fail
      refine (CO'.out _ (Below.refl _ _)).mono ?_
      rintro e u1 ⟨a1, c1, rfl, hT1, hB1⟩
      have HT1 := Lib.hid hT1; have Su1 := Lib.hid hB1; clear hT1 hB1 c00 c01 c02 c03 c04 c05 c06 c07 c10 c11 c12 c13 c14 c15 c16 c17 c18 c19 c110 c111 c112 c20 c30 c31
      have Zyu1 := Lib.hid ((Su1.out.block _ (Array.getElem?_eq_some_iff.1 Zc0.out).1).trans Zc0.out)
      have Zvu1 := Lib.hid ((Su1.out.block _ (Array.getElem?_eq_some_iff.1 Zc1.out).1).trans Zc1.out)
      have Zcu1 := Lib.hid ((Su1.out.block _ (Array.getElem?_eq_some_iff.1 Zc2.out).1).trans Zc2.out)
      have Zlu1 := Lib.hid ((Su1.out.block _ (Array.getElem?_eq_some_iff.1 Zc3.out).1).trans Zc3.out)
      have HBu1 := Lib.hid (thru Su1.out HBc.out)
      go_wp2_with fail
      refine (Calls.grown (alive_any _)).mono ?_
      rintro e w1 ⟨rfl, z2, rfl⟩
      go_wp2_with fail
      go_ret
      exact ⟨rfl, HBu1.out.gw z2⟩
    obtain ⟨H, FN, hL, no⟩ := cool_four (hE.trans h4)
    obtain rfl := FN.e
    rw [hL, hE, h4] at CO'
    have NO := Lib.hid no; clear no hL hE h4 h0
    have kk := FN.k
    have hh := FN.h
    have mm : H * c.k ≤ 24 := by have := Nat.mul_le_mul (show H ≤ 6 by omega) (show c.k ≤ 4 by omega); omega
    have mi : (H : Int) * (c.k : Int) = ((H * c.k : Nat) : Int) := (Int.natCast_mul H c.k).symm
    obtain ⟨M, hM⟩ : ∃ M, H * c.k = M := ⟨_, rfl⟩
    rw [hM] at mm mi
    clear hM
    have kz0 : ((c.k : Int) == 0) = false := by simp; omega
    go_enter Try.func13, Try.ntmps13
    go_upto_region 1 with (fail)
    rw [HWc.out]
    go_wp2_with fail
    refine (CO'.out _ (Below.refl _ _)).mono ?_
    rintro e u1 ⟨a1, c1, rfl, hT1, hB1⟩
    have HT1 := Lib.hid hT1; have Su1 := Lib.hid hB1; clear hT1 hB1 c00 c01 c02 c03 c04 c05 c06 c07 c10 c11 c12 c13 c14 c15 c16 c17 c18 c19 c110 c111 c112 c20 c30 c31
    have Zyu1 := Lib.hid ((Su1.out.block _ (Array.getElem?_eq_some_iff.1 Zc0.out).1).trans Zc0.out)
    have Zvu1 := Lib.hid ((Su1.out.block _ (Array.getElem?_eq_some_iff.1 Zc1.out).1).trans Zc1.out)
    have Zcu1 := Lib.hid ((Su1.out.block _ (Array.getElem?_eq_some_iff.1 Zc2.out).1).trans Zc2.out)
    have Zlu1 := Lib.hid ((Su1.out.block _ (Array.getElem?_eq_some_iff.1 Zc3.out).1).trans Zc3.out)
    have HBu1 := Lib.hid (thru Su1.out HBc.out)
    have ec0u1 : u1.cell? ⟨w.heap.size + 1 + 1, 0, none⟩ = some (.slice aS c.k cS) := cell_of_block Zcu1.out 0 (by simp)
    have lcu1 := (Array.getElem?_eq_some_iff.1 Zcu1.out).1
    go_upto_region 22 with (fail)
    clear ec0u1
    go_upto_region 23 with (fail)
    obtain ⟨W2, hW2⟩ : ∃ W2, u1 = W2 := ⟨_, rfl⟩
    have hbW2 : Below u1.heap.size u1 W2 := by rw [← hW2]; exact Below.refl _ u1
    have ZyW2 := Lib.hid ((hbW2.block _ (Array.getElem?_eq_some_iff.1 Zyu1.out).1).trans Zyu1.out)
    have ZvW2 := Lib.hid ((hbW2.block _ (Array.getElem?_eq_some_iff.1 Zvu1.out).1).trans Zvu1.out)
    have ZcW2 := Lib.hid ((hbW2.block _ (Array.getElem?_eq_some_iff.1 Zcu1.out).1).trans Zcu1.out)
    have ZlW2 := Lib.hid ((hbW2.block _ (Array.getElem?_eq_some_iff.1 Zlu1.out).1).trans Zlu1.out)
    have HBW2 := Lib.hid (thru hbW2 HBu1.out)
    have SBW2 := Lib.hid hbW2; clear hbW2
    have HWW2 := Lib.hid hW2; clear hW2
    rw [HWW2.out]
    have S2 := Lib.hid (Su1.out.trans (SBW2.out.mono Su1.out.size))
    have ec0W2 : W2.cell? ⟨w.heap.size + 1 + 1, 0, none⟩ = some (.slice aS c.k cS) := cell_of_block ZcW2.out 0 (by simp)
    have lcW2 := (Array.getElem?_eq_some_iff.1 ZcW2.out).1
    go_wp2_with fail
    go_loopw [23, 133] (fun s i wr => ∃ (l : List Nat) (a : Option Addr) (cN : Nat), l.length ≤ H ∧ s = .slice a l.length cN ∧ i = .int .i64 l.length ∧ Hid (RowN wr W2.heap.size a l cN) ∧ Hid (∀ i, i < l.length → l.getD i 0 < c.k) ∧ Hid (Below W2.heap.size W2 wr)) (fun _ i _ => H - (intOf i).toNat)
    case atStart => exact ⟨[], none, 0, Nat.zero_le _, rfl, rfl, Lib.hid (RowN.nil _ _), Lib.hid (fun i hi => absurd hi (Nat.not_lt_zero i)), Lib.hid (Below.refl _ _)⟩
    case round =>
      obtain ⟨l, a, cN, hl, rfl, rfl, RL, XL, BL⟩ := hrel
      by_cases hlt : l.length < H
      · skip
        obtain ⟨m, hm_⟩ : ∃ m, l.length = m := ⟨_, rfl⟩
        have HM := Lib.hid hm_
        simp only [hm_] at hlt hl
        skip
        have WB : Below W1.heap.size W1 wr := S2.out.trans (BL.out.mono S2.out.size)
        obtain ⟨bb, ob, rfl, lbb, hcb⟩ := (HU.out.below WB).resolve_left (by omega)
        obtain ⟨q, em, ml, HQ⟩ : ∃ q : Nat, ((m : Int) % (nB : Int)) = q ∧ q < nB ∧ Hid (m % nB = q) := ⟨m % nB, by rw [Int.natCast_emod], Nat.mod_lt _ (by omega), Lib.hid rfl⟩
        have u0 := hcb q ml
        have uu := HV.out q ml
        clear hcb
        obtain ⟨U0, hU0⟩ : ∃ z, U q = z := ⟨_, rfl⟩
        rw [hU0] at u0 uu
        clear hU0
        obtain ⟨r, er, rl⟩ : ∃ r : Nat, U0 % (c.k : Int) = r ∧ r < c.k := ⟨(U0 % (c.k : Int)).toNat, by have := Int.emod_nonneg U0 (show (c.k : Int) ≠ 0 by omega); omega, by have := Int.emod_lt_of_pos U0 (show (0 : Int) < (c.k : Int) by omega); omega⟩
        have zc := (BL.out.block _ (Array.getElem?_eq_some_iff.1 ZcW2.out).1).trans ZcW2.out
        have ec := cell_of_block zc 0 (by simp)
        have lc_ := (Array.getElem?_eq_some_iff.1 zc).1
        have WS := Lib.hid WB
        have kz : ¬ (c.k : Int) = 0 := by omega
        have nz : ¬ (nB : Int) = 0 := by omega
        clear zc WB ec0W2
        rw [hm_]
        clear hm_
        go_upto_region 26 with (fail)
        refine wp_region_ord [0] [1, 2, 3, 4, 5, 6, 7, 8, 9, 10, 11] [12, 13, 14] (by kernel_rfl) (by kernel_rfl) ?_
        simp only [pickL, List.getElem?_cons_zero, List.getElem?_cons_succ]
        repeat (go_big_quiet_step (fail))
        refine wpQuiet_nil ?_
        repeat (go_big_quiet_step (fail))
        refine wpQuiet_nil ?_
        rintro _ ⟨z7, rfl⟩
        obtain ⟨V7, hV7⟩ : ∃ z, gw wr z7 = z := ⟨_, rfl⟩
        have b7 := below_gw wr z7
        rw [hV7] at b7 ⊢
        have RN7 := Lib.hid (show V7.ownsRow W2.heap.size 3 1 (.slice a m cN) m (natsV l) from by have := own_below RL.out b7; rw [← HM.out]; exact this)
        have BL7 := Lib.hid (thru b7 BL.out)
        have sz7 := BL7.out.size
        clear hV7 b7
        go_wp2_with (at_builtin; refine wpList_append_own _ rfl _ _ 33 rfl W2.heap.size 3 i0 (.int .i64 0) 1 8 Try.underlying33 II.out IZ0.out IZ1.out IZ2.out rfl (by decide) _ m (natsV l) rfl (World.ownsRow.alloc RN7.out _) ⟨V7.heap.size, 0, none⟩ 1 1 [.int .i64 (r : Int)] rfl rfl (news_lit _ _ _) (by simp [Value.oneCell']) (by unfold maxLen; omega) (by omega) (by simp; omega) ?_; intro v9 w9 hown9 hgrow9 _)
        rw [natsV_push] at hown9
        obtain ⟨a9, c9, rfl⟩ := own_form hown9
        have hl9 : (l ++ [r]).length = m + 1 := by simp [HM.out]
        have RN9 := Lib.hid (show RowN w9 W2.heap.size a9 (l ++ [r]) c9 from by unfold RowN; rw [hl9]; exact hown9)
        have B9 := Lib.hid ((BL7.out.alloc BL7.out.size (.cells #[.int .i64 (r : Int)] 3)).grown hgrow9 (by simp; omega) (fun b hb => (RN7.out.lt b hb).1))
        have X9 := Lib.hid (show ∀ i, i < (l ++ [r]).length → (l ++ [r]).getD i 0 < c.k from fun i hi => by rcases Nat.lt_or_ge i l.length with h | h; (· have := XL.out i h; simpa [List.getD, List.getElem?_append_left h] using this); (· have e : i = l.length := (by simp at hi; omega); subst e; simpa [List.getD] using rl))
        clear hown9 hgrow9
        refine noPanic_now ?_
        go_wp2_with fail
        go_roundw
        case rel => exact ⟨l ++ [r], a9, c9, by omega, by rw [hl9], by rw [hl9]; go_num, RN9, X9, B9⟩
        case measure => simp [intOf]; omega
      have hlH : H = l.length := by omega
      have HLH := Lib.hid hlH; clear hlH
      have WB := Lib.hid (S2.out.trans (BL.out.mono S2.out.size))
      have CCL := Lib.hid (CCX.out wr WB.out a cN l RL.out.ints (by omega) XL.out (by omega))
      obtain ⟨sl, hsl⟩ : ∃ s, l.sum = s := ⟨_, rfl⟩
      have HSL := Lib.hid hsl
      rw [hsl] at CCL
      clear hsl ec0W2
      have SBwr := Lib.hid (BL.out)
      have Zywr := Lib.hid ((SBwr.out.block _ (Array.getElem?_eq_some_iff.1 ZyW2.out).1).trans ZyW2.out)
      have Zvwr := Lib.hid ((SBwr.out.block _ (Array.getElem?_eq_some_iff.1 ZvW2.out).1).trans ZvW2.out)
      have Zcwr := Lib.hid ((SBwr.out.block _ (Array.getElem?_eq_some_iff.1 ZcW2.out).1).trans ZcW2.out)
      have Zlwr := Lib.hid ((SBwr.out.block _ (Array.getElem?_eq_some_iff.1 ZlW2.out).1).trans ZlW2.out)
      have HBwr := Lib.hid (thru SBwr.out HBW2.out)
      have Swr := Lib.hid (S2.out.trans (SBwr.out.mono S2.out.size))
      obtain ⟨ml, hml⟩ : ∃ m, l.length = m := ⟨_, rfl⟩
      have HML := Lib.hid hml
      have mlH : ml = H := by have := HLH.out; omega
      have hl2 : ml ≤ 6 := by omega
      have hge : ¬ ml < H := by omega
      have FIL := Lib.hid (fun W hb a cp hT => FIX.out W hb a cp l (by omega) hT)
      obtain ⟨FE, hFE⟩ : ∃ z, firstE c.y v l.length (c.chF l) (c.chG l) c.ll c.lh = z := ⟨_, rfl⟩
      have HFE := Lib.hid hFE
      rw [hFE] at FIL
      have RLI := Lib.hid RL.out.ints
      rw [hml] at CCL FIL RLI
      clear hFE mlH
      rw [hml]
      clear hml
      go_wp2_with fail
      refine (CCL.out).mono ?_
      rintro e u5 ⟨ao, co, rfl, hT5, hbu5⟩
      have LBu5 := Lib.hid (hbu5)
      clear hbu5
      have SBu5 := Lib.hid (LBu5.out)
      have Zyu5 := Lib.hid ((SBu5.out.block _ (Array.getElem?_eq_some_iff.1 Zywr.out).1).trans Zywr.out)
      have Zvu5 := Lib.hid ((SBu5.out.block _ (Array.getElem?_eq_some_iff.1 Zvwr.out).1).trans Zvwr.out)
      have Zcu5 := Lib.hid ((SBu5.out.block _ (Array.getElem?_eq_some_iff.1 Zcwr.out).1).trans Zcwr.out)
      have Zlu5 := Lib.hid ((SBu5.out.block _ (Array.getElem?_eq_some_iff.1 Zlwr.out).1).trans Zlwr.out)
      have HBu5 := Lib.hid (thru SBu5.out HBwr.out)
      have Su5 := Lib.hid (Swr.out.trans (SBu5.out.mono Swr.out.size))
      have HT5 := Lib.hid hT5; clear hT5
      have ey0u5 : u5.cell? ⟨w.heap.size, 0, none⟩ = some (.slice c.y.aT c.y.nT c.y.cT) := cell_of_block Zyu5.out 0 (by simp)
      have ey1u5 : u5.cell? ⟨w.heap.size, 1, none⟩ = some (.slice c.y.aR c.y.nR c.y.cR) := cell_of_block Zyu5.out 1 (by simp)
      have ey2u5 : u5.cell? ⟨w.heap.size, 2, none⟩ = some (.int .i64 c.y.sl) := cell_of_block Zyu5.out 2 (by simp)
      have ey3u5 : u5.cell? ⟨w.heap.size, 3, none⟩ = some (.int .i64 c.y.sh) := cell_of_block Zyu5.out 3 (by simp)
      have ey4u5 : u5.cell? ⟨w.heap.size, 4, none⟩ = some (.int .i64 c.y.gl) := cell_of_block Zyu5.out 4 (by simp)
      have ey5u5 : u5.cell? ⟨w.heap.size, 5, none⟩ = some (.int .i64 c.y.gh) := cell_of_block Zyu5.out 5 (by simp)
      have ey6u5 : u5.cell? ⟨w.heap.size, 6, none⟩ = some (.int .i64 c.y.hl) := cell_of_block Zyu5.out 6 (by simp)
      have ey7u5 : u5.cell? ⟨w.heap.size, 7, none⟩ = some (.int .i64 c.y.hh) := cell_of_block Zyu5.out 7 (by simp)
      have lyu5 := (Array.getElem?_eq_some_iff.1 Zyu5.out).1
      have ev0u5 : u5.cell? ⟨w.heap.size + 1, 0, none⟩ = some (.int .i64 v.sl) := cell_of_block Zvu5.out 0 (by simp)
      have ev1u5 : u5.cell? ⟨w.heap.size + 1, 1, none⟩ = some (.int .i64 v.sh) := cell_of_block Zvu5.out 1 (by simp)
      have ev2u5 : u5.cell? ⟨w.heap.size + 1, 2, none⟩ = some (.int .i64 v.el) := cell_of_block Zvu5.out 2 (by simp)
      have ev3u5 : u5.cell? ⟨w.heap.size + 1, 3, none⟩ = some (.int .i64 v.eh) := cell_of_block Zvu5.out 3 (by simp)
      have ev4u5 : u5.cell? ⟨w.heap.size + 1, 4, none⟩ = some (.int .i64 v.pl) := cell_of_block Zvu5.out 4 (by simp)
      have ev5u5 : u5.cell? ⟨w.heap.size + 1, 5, none⟩ = some (.int .i64 v.ph) := cell_of_block Zvu5.out 5 (by simp)
      have ev6u5 : u5.cell? ⟨w.heap.size + 1, 6, none⟩ = some (.int .i64 v.gl) := cell_of_block Zvu5.out 6 (by simp)
      have ev7u5 : u5.cell? ⟨w.heap.size + 1, 7, none⟩ = some (.int .i64 v.gh) := cell_of_block Zvu5.out 7 (by simp)
      have ev8u5 : u5.cell? ⟨w.heap.size + 1, 8, none⟩ = some (.int .i64 v.ol) := cell_of_block Zvu5.out 8 (by simp)
      have ev9u5 : u5.cell? ⟨w.heap.size + 1, 9, none⟩ = some (.int .i64 v.oh) := cell_of_block Zvu5.out 9 (by simp)
      have ev10u5 : u5.cell? ⟨w.heap.size + 1, 10, none⟩ = some (.int .i64 v.tl) := cell_of_block Zvu5.out 10 (by simp)
      have ev11u5 : u5.cell? ⟨w.heap.size + 1, 11, none⟩ = some (.int .i64 v.th) := cell_of_block Zvu5.out 11 (by simp)
      have ev12u5 : u5.cell? ⟨w.heap.size + 1, 12, none⟩ = some (.int .i64 v.c) := cell_of_block Zvu5.out 12 (by simp)
      have lvu5 := (Array.getElem?_eq_some_iff.1 Zvu5.out).1
      have el0u5 : u5.cell? ⟨w.heap.size + 1 + 1 + 1, 0, none⟩ = some (.int .i64 c.ll) := cell_of_block Zlu5.out 0 (by simp)
      have el1u5 : u5.cell? ⟨w.heap.size + 1 + 1 + 1, 1, none⟩ = some (.int .i64 c.lh) := cell_of_block Zlu5.out 1 (by simp)
      have llu5 := (Array.getElem?_eq_some_iff.1 Zlu5.out).1
      go_wp2_with fail
      refine (Calls.grown (FIL.out _ Su5.out ao co HT5.out)).mono ?_
      rintro e w1 ⟨rfl, z60, rfl⟩
      by_cases h4 : FE = 4
      rotate_left
      · have ne4 : (FE != 4) = true := by simpa using h4
        clear h4
        go_wp2_with fail
        refine (Calls.gw_of (alive_any _)).mono ?_
        rintro e w1 ⟨rfl, z61, rfl⟩
        go_wp2_with fail
        go_ret
        exact ⟨rfl, HBu5.out.gw z61⟩
      have RUN := (first_run FN.y FN.v FN.s FN.l (by have := HML.out; omega) XL.out).2 (HFE.out.trans h4)
      exact absurd RUN (NO.out l (by have := HLH.out; omega))
  obtain ⟨H, L, FN, hL, hll, run, mi_, lx⟩ := cool_zero (hE.trans h0)
  obtain rfl := FN.e
  rw [hL, hE, h0] at CO'
  have MI := Lib.hid mi_; have LX := Lib.hid lx; have RUNL := Lib.hid run; have HLL := Lib.hid hll; clear mi_ lx run hL hE h0
  have kk := FN.k
  have hh := FN.h
  have mm : H * c.k ≤ 24 := by have := Nat.mul_le_mul (show H ≤ 6 by omega) (show c.k ≤ 4 by omega); omega
  have mi : (H : Int) * (c.k : Int) = ((H * c.k : Nat) : Int) := (Int.natCast_mul H c.k).symm
  obtain ⟨M, hM⟩ : ∃ M, H * c.k = M := ⟨_, rfl⟩
  rw [hM] at mm mi
  clear hM
  have kz0 : ((c.k : Int) == 0) = false := by simp; omega
  have XL_ := Lib.hid (fun i (hi : i < H) => ((run_vs c L v).1 RUNL.out i (by rw [hll]; exact hi)).1)
  have XLL := Lib.hid (fun i (hi : i < L.length) => ((run_vs c L v).1 RUNL.out i hi).1)
  have F4 := (first_run FN.y FN.v FN.s FN.l (by omega) XLL.out).1 RUNL.out
  have FIL1 := Lib.hid (fun W hb a cp hT => FIX.out W hb a cp L (by omega) hT)
  rw [F4] at FIL1
  have CCL1 := Lib.hid (fun W hb a cp hl => CCX.out W hb a cp L hl (by omega) XLL.out (by omega))
  rw [hll] at CO' FIL1 CCL1
  obtain ⟨SL, hSL⟩ : ∃ s, L.sum = s := ⟨_, rfl⟩
  rw [hSL] at CCL1 MI LX
  clear F4 hll hSL
  go_enter Try.func13, Try.ntmps13
  go_upto_region 1 with (fail)
  rw [HWc.out]
  go_wp2_with fail
  refine (CO'.out _ (Below.refl _ _)).mono ?_
  rintro e u1 ⟨a1, c1, rfl, hT1, hB1⟩
  have HT1 := Lib.hid hT1; have Su1 := Lib.hid hB1; clear hT1 hB1 c00 c01 c02 c03 c04 c05 c06 c07 c10 c11 c12 c13 c14 c15 c16 c17 c18 c19 c110 c111 c112 c20 c30 c31
  have Zyu1 := Lib.hid ((Su1.out.block _ (Array.getElem?_eq_some_iff.1 Zc0.out).1).trans Zc0.out)
  have Zvu1 := Lib.hid ((Su1.out.block _ (Array.getElem?_eq_some_iff.1 Zc1.out).1).trans Zc1.out)
  have Zcu1 := Lib.hid ((Su1.out.block _ (Array.getElem?_eq_some_iff.1 Zc2.out).1).trans Zc2.out)
  have Zlu1 := Lib.hid ((Su1.out.block _ (Array.getElem?_eq_some_iff.1 Zc3.out).1).trans Zc3.out)
  have HBu1 := Lib.hid (thru Su1.out HBc.out)
  have ec0u1 : u1.cell? ⟨w.heap.size + 1 + 1, 0, none⟩ = some (.slice aS c.k cS) := cell_of_block Zcu1.out 0 (by simp)
  have lcu1 := (Array.getElem?_eq_some_iff.1 Zcu1.out).1
  go_wp2_with fail
  go_loopw [102] (fun i wr => ∃ j : Nat, j ≤ H ∧ i = .int .i64 j ∧ ∃ x, wr = gw u1 x) (fun i _ => H - (intOf i).toNat)
  case atStart => exact ⟨0, Nat.zero_le _, rfl, ⟨#[], u1.drawn⟩, by simp [gw]⟩
  case round =>
    obtain ⟨j, hj, rfl, x, rfl⟩ := hrel
    by_cases hlt : j < H
    · obtain ⟨b1, o1, e1, l1, h1⟩ := HT1.out.resolve_left (by omega)
      cases e1
      have d1 := h1 j hlt
      have xk := XL_.out j hlt
      obtain ⟨xa, hxa⟩ : ∃ z, L.getD j 0 = z := ⟨_, rfl⟩
      simp only [hxa] at d1 xk
      clear h1 hxa
      have xi : (xa : Int) < (c.k : Int) := by omega
      go_wp2_with fail
      go_roundw
      case rel => exact ⟨j + 1, by omega, by go_num, x, rfl⟩
      case measure => simp [intOf]; omega
    obtain rfl : H = j := by omega
    go_wp2_with fail
    have CC1 := Lib.hid (CCL1.out (gw u1 x) (Su1.out.trans ((below_gw u1 x).mono Su1.out.size)) a1 c1 (HT1.out.below (below_gw u1 x)))
    clear ec0u1
    refine (CC1.out).mono ?_
    rintro e u2 ⟨ao1, co1, rfl, hT2, hbu2⟩
    have LBu2 := Lib.hid (thru hbu2 (below_gw u1 x))
    clear hbu2
    have SBu2 := Lib.hid (LBu2.out)
    have Zyu2 := Lib.hid ((SBu2.out.block _ (Array.getElem?_eq_some_iff.1 Zyu1.out).1).trans Zyu1.out)
    have Zvu2 := Lib.hid ((SBu2.out.block _ (Array.getElem?_eq_some_iff.1 Zvu1.out).1).trans Zvu1.out)
    have Zcu2 := Lib.hid ((SBu2.out.block _ (Array.getElem?_eq_some_iff.1 Zcu1.out).1).trans Zcu1.out)
    have Zlu2 := Lib.hid ((SBu2.out.block _ (Array.getElem?_eq_some_iff.1 Zlu1.out).1).trans Zlu1.out)
    have HBu2 := Lib.hid (thru SBu2.out HBu1.out)
    have Su2 := Lib.hid (Su1.out.trans (SBu2.out.mono Su1.out.size))
    have HT2 := Lib.hid hT2; clear hT2
    have ey0u2 : u2.cell? ⟨w.heap.size, 0, none⟩ = some (.slice c.y.aT c.y.nT c.y.cT) := cell_of_block Zyu2.out 0 (by simp)
    have ey1u2 : u2.cell? ⟨w.heap.size, 1, none⟩ = some (.slice c.y.aR c.y.nR c.y.cR) := cell_of_block Zyu2.out 1 (by simp)
    have ey2u2 : u2.cell? ⟨w.heap.size, 2, none⟩ = some (.int .i64 c.y.sl) := cell_of_block Zyu2.out 2 (by simp)
    have ey3u2 : u2.cell? ⟨w.heap.size, 3, none⟩ = some (.int .i64 c.y.sh) := cell_of_block Zyu2.out 3 (by simp)
    have ey4u2 : u2.cell? ⟨w.heap.size, 4, none⟩ = some (.int .i64 c.y.gl) := cell_of_block Zyu2.out 4 (by simp)
    have ey5u2 : u2.cell? ⟨w.heap.size, 5, none⟩ = some (.int .i64 c.y.gh) := cell_of_block Zyu2.out 5 (by simp)
    have ey6u2 : u2.cell? ⟨w.heap.size, 6, none⟩ = some (.int .i64 c.y.hl) := cell_of_block Zyu2.out 6 (by simp)
    have ey7u2 : u2.cell? ⟨w.heap.size, 7, none⟩ = some (.int .i64 c.y.hh) := cell_of_block Zyu2.out 7 (by simp)
    have lyu2 := (Array.getElem?_eq_some_iff.1 Zyu2.out).1
    have ev0u2 : u2.cell? ⟨w.heap.size + 1, 0, none⟩ = some (.int .i64 v.sl) := cell_of_block Zvu2.out 0 (by simp)
    have ev1u2 : u2.cell? ⟨w.heap.size + 1, 1, none⟩ = some (.int .i64 v.sh) := cell_of_block Zvu2.out 1 (by simp)
    have ev2u2 : u2.cell? ⟨w.heap.size + 1, 2, none⟩ = some (.int .i64 v.el) := cell_of_block Zvu2.out 2 (by simp)
    have ev3u2 : u2.cell? ⟨w.heap.size + 1, 3, none⟩ = some (.int .i64 v.eh) := cell_of_block Zvu2.out 3 (by simp)
    have ev4u2 : u2.cell? ⟨w.heap.size + 1, 4, none⟩ = some (.int .i64 v.pl) := cell_of_block Zvu2.out 4 (by simp)
    have ev5u2 : u2.cell? ⟨w.heap.size + 1, 5, none⟩ = some (.int .i64 v.ph) := cell_of_block Zvu2.out 5 (by simp)
    have ev6u2 : u2.cell? ⟨w.heap.size + 1, 6, none⟩ = some (.int .i64 v.gl) := cell_of_block Zvu2.out 6 (by simp)
    have ev7u2 : u2.cell? ⟨w.heap.size + 1, 7, none⟩ = some (.int .i64 v.gh) := cell_of_block Zvu2.out 7 (by simp)
    have ev8u2 : u2.cell? ⟨w.heap.size + 1, 8, none⟩ = some (.int .i64 v.ol) := cell_of_block Zvu2.out 8 (by simp)
    have ev9u2 : u2.cell? ⟨w.heap.size + 1, 9, none⟩ = some (.int .i64 v.oh) := cell_of_block Zvu2.out 9 (by simp)
    have ev10u2 : u2.cell? ⟨w.heap.size + 1, 10, none⟩ = some (.int .i64 v.tl) := cell_of_block Zvu2.out 10 (by simp)
    have ev11u2 : u2.cell? ⟨w.heap.size + 1, 11, none⟩ = some (.int .i64 v.th) := cell_of_block Zvu2.out 11 (by simp)
    have ev12u2 : u2.cell? ⟨w.heap.size + 1, 12, none⟩ = some (.int .i64 v.c) := cell_of_block Zvu2.out 12 (by simp)
    have lvu2 := (Array.getElem?_eq_some_iff.1 Zvu2.out).1
    have el0u2 : u2.cell? ⟨w.heap.size + 1 + 1 + 1, 0, none⟩ = some (.int .i64 c.ll) := cell_of_block Zlu2.out 0 (by simp)
    have el1u2 : u2.cell? ⟨w.heap.size + 1 + 1 + 1, 1, none⟩ = some (.int .i64 c.lh) := cell_of_block Zlu2.out 1 (by simp)
    have llu2 := (Array.getElem?_eq_some_iff.1 Zlu2.out).1
    go_wp2_with fail
    refine (Calls.grown (FIL1.out _ Su2.out ao1 co1 HT2.out)).mono ?_
    rintro e w1 ⟨rfl, z50, rfl⟩
    go_upto_region 22 with (fail)
    clear ey0u2 ey1u2 ey2u2 ey3u2 ey4u2 ey5u2 ey6u2 ey7u2 ev0u2 ev1u2 ev2u2 ev3u2 ev4u2 ev5u2 ev6u2 ev7u2 ev8u2 ev9u2 ev10u2 ev11u2 ev12u2 el0u2 el1u2
    go_upto_region 23 with (fail)
    obtain ⟨W2, hW2⟩ : ∃ W2, gw u2 z50 = W2 := ⟨_, rfl⟩
    have hbW2 : Below u2.heap.size u2 W2 := by rw [← hW2]; exact below_gw u2 z50
    have ZyW2 := Lib.hid ((hbW2.block _ (Array.getElem?_eq_some_iff.1 Zyu2.out).1).trans Zyu2.out)
    have ZvW2 := Lib.hid ((hbW2.block _ (Array.getElem?_eq_some_iff.1 Zvu2.out).1).trans Zvu2.out)
    have ZcW2 := Lib.hid ((hbW2.block _ (Array.getElem?_eq_some_iff.1 Zcu2.out).1).trans Zcu2.out)
    have ZlW2 := Lib.hid ((hbW2.block _ (Array.getElem?_eq_some_iff.1 Zlu2.out).1).trans Zlu2.out)
    have HBW2 := Lib.hid (thru hbW2 HBu2.out)
    have SBW2 := Lib.hid hbW2; clear hbW2
    have HWW2 := Lib.hid hW2; clear hW2
    rw [HWW2.out]
    have S2 := Lib.hid (Su2.out.trans (SBW2.out.mono Su2.out.size))
    have ec0W2 : W2.cell? ⟨w.heap.size + 1 + 1, 0, none⟩ = some (.slice aS c.k cS) := cell_of_block ZcW2.out 0 (by simp)
    have lcW2 := (Array.getElem?_eq_some_iff.1 ZcW2.out).1
    go_wp2_with fail
    go_loopw [23, 133] (fun s i wr => ∃ (l : List Nat) (a : Option Addr) (cN : Nat), l.length ≤ H ∧ s = .slice a l.length cN ∧ i = .int .i64 l.length ∧ Hid (RowN wr W2.heap.size a l cN) ∧ Hid (∀ i, i < l.length → l.getD i 0 < c.k) ∧ Hid (Below W2.heap.size W2 wr)) (fun _ i _ => H - (intOf i).toNat)
    case atStart => exact ⟨[], none, 0, Nat.zero_le _, rfl, rfl, Lib.hid (RowN.nil _ _), Lib.hid (fun i hi => absurd hi (Nat.not_lt_zero i)), Lib.hid (Below.refl _ _)⟩
    case round =>
      obtain ⟨l, a, cN, hl, rfl, rfl, RL, XL, BL⟩ := hrel
      by_cases hlt : l.length < H
      · skip
        obtain ⟨m, hm_⟩ : ∃ m, l.length = m := ⟨_, rfl⟩
        have HM := Lib.hid hm_
        simp only [hm_] at hlt hl
        skip
        have WB : Below W1.heap.size W1 wr := S2.out.trans (BL.out.mono S2.out.size)
        obtain ⟨bb, ob, rfl, lbb, hcb⟩ := (HU.out.below WB).resolve_left (by omega)
        obtain ⟨q, em, ml, HQ⟩ : ∃ q : Nat, ((m : Int) % (nB : Int)) = q ∧ q < nB ∧ Hid (m % nB = q) := ⟨m % nB, by rw [Int.natCast_emod], Nat.mod_lt _ (by omega), Lib.hid rfl⟩
        have u0 := hcb q ml
        have uu := HV.out q ml
        clear hcb
        obtain ⟨U0, hU0⟩ : ∃ z, U q = z := ⟨_, rfl⟩
        rw [hU0] at u0 uu
        clear hU0
        obtain ⟨r, er, rl⟩ : ∃ r : Nat, U0 % (c.k : Int) = r ∧ r < c.k := ⟨(U0 % (c.k : Int)).toNat, by have := Int.emod_nonneg U0 (show (c.k : Int) ≠ 0 by omega); omega, by have := Int.emod_lt_of_pos U0 (show (0 : Int) < (c.k : Int) by omega); omega⟩
        have zc := (BL.out.block _ (Array.getElem?_eq_some_iff.1 ZcW2.out).1).trans ZcW2.out
        have ec := cell_of_block zc 0 (by simp)
        have lc_ := (Array.getElem?_eq_some_iff.1 zc).1
        have WS := Lib.hid WB
        have kz : ¬ (c.k : Int) = 0 := by omega
        have nz : ¬ (nB : Int) = 0 := by omega
        clear zc WB ec0W2
        rw [hm_]
        clear hm_
        go_upto_region 26 with (fail)
        refine wp_region_ord [0] [1, 2, 3, 4, 5, 6, 7, 8, 9, 10, 11] [12, 13, 14] (by kernel_rfl) (by kernel_rfl) ?_
        simp only [pickL, List.getElem?_cons_zero, List.getElem?_cons_succ]
        repeat (go_big_quiet_step (fail))
        refine wpQuiet_nil ?_
        repeat (go_big_quiet_step (fail))
        refine wpQuiet_nil ?_
        rintro _ ⟨z7, rfl⟩
        obtain ⟨V7, hV7⟩ : ∃ z, gw wr z7 = z := ⟨_, rfl⟩
        have b7 := below_gw wr z7
        rw [hV7] at b7 ⊢
        have RN7 := Lib.hid (show V7.ownsRow W2.heap.size 3 1 (.slice a m cN) m (natsV l) from by have := own_below RL.out b7; rw [← HM.out]; exact this)
        have BL7 := Lib.hid (thru b7 BL.out)
        have sz7 := BL7.out.size
        clear hV7 b7
        go_wp2_with (at_builtin; refine wpList_append_own _ rfl _ _ 33 rfl W2.heap.size 3 i0 (.int .i64 0) 1 8 Try.underlying33 II.out IZ0.out IZ1.out IZ2.out rfl (by decide) _ m (natsV l) rfl (World.ownsRow.alloc RN7.out _) ⟨V7.heap.size, 0, none⟩ 1 1 [.int .i64 (r : Int)] rfl rfl (news_lit _ _ _) (by simp [Value.oneCell']) (by unfold maxLen; omega) (by omega) (by simp; omega) ?_; intro v9 w9 hown9 hgrow9 _)
        rw [natsV_push] at hown9
        obtain ⟨a9, c9, rfl⟩ := own_form hown9
        have hl9 : (l ++ [r]).length = m + 1 := by simp [HM.out]
        have RN9 := Lib.hid (show RowN w9 W2.heap.size a9 (l ++ [r]) c9 from by unfold RowN; rw [hl9]; exact hown9)
        have B9 := Lib.hid ((BL7.out.alloc BL7.out.size (.cells #[.int .i64 (r : Int)] 3)).grown hgrow9 (by simp; omega) (fun b hb => (RN7.out.lt b hb).1))
        have X9 := Lib.hid (show ∀ i, i < (l ++ [r]).length → (l ++ [r]).getD i 0 < c.k from fun i hi => by rcases Nat.lt_or_ge i l.length with h | h; (· have := XL.out i h; simpa [List.getD, List.getElem?_append_left h] using this); (· have e : i = l.length := (by simp at hi; omega); subst e; simpa [List.getD] using rl))
        clear hown9 hgrow9
        refine noPanic_now ?_
        go_wp2_with fail
        go_roundw
        case rel => exact ⟨l ++ [r], a9, c9, by omega, by rw [hl9], by rw [hl9]; go_num, RN9, X9, B9⟩
        case measure => simp [intOf]; omega
      have hlH : H = l.length := by omega
      have HLH := Lib.hid hlH; clear hlH
      have WB := Lib.hid (S2.out.trans (BL.out.mono S2.out.size))
      have CCL := Lib.hid (CCX.out wr WB.out a cN l RL.out.ints (by omega) XL.out (by omega))
      obtain ⟨sl, hsl⟩ : ∃ s, l.sum = s := ⟨_, rfl⟩
      have HSL := Lib.hid hsl
      rw [hsl] at CCL
      clear hsl ec0W2
      have SBwr := Lib.hid (BL.out)
      have Zywr := Lib.hid ((SBwr.out.block _ (Array.getElem?_eq_some_iff.1 ZyW2.out).1).trans ZyW2.out)
      have Zvwr := Lib.hid ((SBwr.out.block _ (Array.getElem?_eq_some_iff.1 ZvW2.out).1).trans ZvW2.out)
      have Zcwr := Lib.hid ((SBwr.out.block _ (Array.getElem?_eq_some_iff.1 ZcW2.out).1).trans ZcW2.out)
      have Zlwr := Lib.hid ((SBwr.out.block _ (Array.getElem?_eq_some_iff.1 ZlW2.out).1).trans ZlW2.out)
      have HBwr := Lib.hid (thru SBwr.out HBW2.out)
      have Swr := Lib.hid (S2.out.trans (SBwr.out.mono S2.out.size))
      obtain ⟨ml, hml⟩ : ∃ m, l.length = m := ⟨_, rfl⟩
      have HML := Lib.hid hml
      have mlH : ml = H := by have := HLH.out; omega
      have hl2 : ml ≤ 6 := by omega
      have hge : ¬ ml < H := by omega
      have FIL := Lib.hid (fun W hb a cp hT => FIX.out W hb a cp l (by omega) hT)
      obtain ⟨FE, hFE⟩ : ∃ z, firstE c.y v l.length (c.chF l) (c.chG l) c.ll c.lh = z := ⟨_, rfl⟩
      have HFE := Lib.hid hFE
      rw [hFE] at FIL
      have RLI := Lib.hid RL.out.ints
      rw [hml] at CCL FIL RLI
      clear hFE mlH
      rw [hml]
      clear hml
      go_wp2_with fail
      refine (CCL.out).mono ?_
      rintro e u5 ⟨ao, co, rfl, hT5, hbu5⟩
      have LBu5 := Lib.hid (hbu5)
      clear hbu5
      have SBu5 := Lib.hid (LBu5.out)
      have Zyu5 := Lib.hid ((SBu5.out.block _ (Array.getElem?_eq_some_iff.1 Zywr.out).1).trans Zywr.out)
      have Zvu5 := Lib.hid ((SBu5.out.block _ (Array.getElem?_eq_some_iff.1 Zvwr.out).1).trans Zvwr.out)
      have Zcu5 := Lib.hid ((SBu5.out.block _ (Array.getElem?_eq_some_iff.1 Zcwr.out).1).trans Zcwr.out)
      have Zlu5 := Lib.hid ((SBu5.out.block _ (Array.getElem?_eq_some_iff.1 Zlwr.out).1).trans Zlwr.out)
      have HBu5 := Lib.hid (thru SBu5.out HBwr.out)
      have Su5 := Lib.hid (Swr.out.trans (SBu5.out.mono Swr.out.size))
      have HT5 := Lib.hid hT5; clear hT5
      have ey0u5 : u5.cell? ⟨w.heap.size, 0, none⟩ = some (.slice c.y.aT c.y.nT c.y.cT) := cell_of_block Zyu5.out 0 (by simp)
      have ey1u5 : u5.cell? ⟨w.heap.size, 1, none⟩ = some (.slice c.y.aR c.y.nR c.y.cR) := cell_of_block Zyu5.out 1 (by simp)
      have ey2u5 : u5.cell? ⟨w.heap.size, 2, none⟩ = some (.int .i64 c.y.sl) := cell_of_block Zyu5.out 2 (by simp)
      have ey3u5 : u5.cell? ⟨w.heap.size, 3, none⟩ = some (.int .i64 c.y.sh) := cell_of_block Zyu5.out 3 (by simp)
      have ey4u5 : u5.cell? ⟨w.heap.size, 4, none⟩ = some (.int .i64 c.y.gl) := cell_of_block Zyu5.out 4 (by simp)
      have ey5u5 : u5.cell? ⟨w.heap.size, 5, none⟩ = some (.int .i64 c.y.gh) := cell_of_block Zyu5.out 5 (by simp)
      have ey6u5 : u5.cell? ⟨w.heap.size, 6, none⟩ = some (.int .i64 c.y.hl) := cell_of_block Zyu5.out 6 (by simp)
      have ey7u5 : u5.cell? ⟨w.heap.size, 7, none⟩ = some (.int .i64 c.y.hh) := cell_of_block Zyu5.out 7 (by simp)
      have lyu5 := (Array.getElem?_eq_some_iff.1 Zyu5.out).1
      have ev0u5 : u5.cell? ⟨w.heap.size + 1, 0, none⟩ = some (.int .i64 v.sl) := cell_of_block Zvu5.out 0 (by simp)
      have ev1u5 : u5.cell? ⟨w.heap.size + 1, 1, none⟩ = some (.int .i64 v.sh) := cell_of_block Zvu5.out 1 (by simp)
      have ev2u5 : u5.cell? ⟨w.heap.size + 1, 2, none⟩ = some (.int .i64 v.el) := cell_of_block Zvu5.out 2 (by simp)
      have ev3u5 : u5.cell? ⟨w.heap.size + 1, 3, none⟩ = some (.int .i64 v.eh) := cell_of_block Zvu5.out 3 (by simp)
      have ev4u5 : u5.cell? ⟨w.heap.size + 1, 4, none⟩ = some (.int .i64 v.pl) := cell_of_block Zvu5.out 4 (by simp)
      have ev5u5 : u5.cell? ⟨w.heap.size + 1, 5, none⟩ = some (.int .i64 v.ph) := cell_of_block Zvu5.out 5 (by simp)
      have ev6u5 : u5.cell? ⟨w.heap.size + 1, 6, none⟩ = some (.int .i64 v.gl) := cell_of_block Zvu5.out 6 (by simp)
      have ev7u5 : u5.cell? ⟨w.heap.size + 1, 7, none⟩ = some (.int .i64 v.gh) := cell_of_block Zvu5.out 7 (by simp)
      have ev8u5 : u5.cell? ⟨w.heap.size + 1, 8, none⟩ = some (.int .i64 v.ol) := cell_of_block Zvu5.out 8 (by simp)
      have ev9u5 : u5.cell? ⟨w.heap.size + 1, 9, none⟩ = some (.int .i64 v.oh) := cell_of_block Zvu5.out 9 (by simp)
      have ev10u5 : u5.cell? ⟨w.heap.size + 1, 10, none⟩ = some (.int .i64 v.tl) := cell_of_block Zvu5.out 10 (by simp)
      have ev11u5 : u5.cell? ⟨w.heap.size + 1, 11, none⟩ = some (.int .i64 v.th) := cell_of_block Zvu5.out 11 (by simp)
      have ev12u5 : u5.cell? ⟨w.heap.size + 1, 12, none⟩ = some (.int .i64 v.c) := cell_of_block Zvu5.out 12 (by simp)
      have lvu5 := (Array.getElem?_eq_some_iff.1 Zvu5.out).1
      have el0u5 : u5.cell? ⟨w.heap.size + 1 + 1 + 1, 0, none⟩ = some (.int .i64 c.ll) := cell_of_block Zlu5.out 0 (by simp)
      have el1u5 : u5.cell? ⟨w.heap.size + 1 + 1 + 1, 1, none⟩ = some (.int .i64 c.lh) := cell_of_block Zlu5.out 1 (by simp)
      have llu5 := (Array.getElem?_eq_some_iff.1 Zlu5.out).1
      go_wp2_with fail
      refine (Calls.grown (FIL.out _ Su5.out ao co HT5.out)).mono ?_
      rintro e w1 ⟨rfl, z60, rfl⟩
      by_cases h4 : FE = 4
      rotate_left
      · have ne4 : (FE != 4) = true := by simpa using h4
        clear h4
        go_wp2_with fail
        refine (Calls.gw_of (alive_any _)).mono ?_
        rintro e w1 ⟨rfl, z61, rfl⟩
        go_wp2_with fail
        go_ret
        exact ⟨rfl, HBu5.out.gw z61⟩
      have RUN := (first_run FN.y FN.v FN.s FN.l (by have := HML.out; omega) XL.out).2 (HFE.out.trans h4)
      have MIN := MI.out l (by have := HLH.out; omega) RUN
      rw [HSL.out] at MIN
      have LEX := Lib.hid (LX.out l (by have := HLH.out; omega) RUN)
      rw [HSL.out] at LEX
      skip
      subst h4
      go_upto_region 35 with (fail)
      obtain ⟨W3, hW3⟩ : ∃ W3, gw u5 z60 = W3 := ⟨_, rfl⟩
      have hbW3 : Below u5.heap.size u5 W3 := by rw [← hW3]; exact below_gw u5 z60
      have ZyW3 := Lib.hid ((hbW3.block _ (Array.getElem?_eq_some_iff.1 Zyu5.out).1).trans Zyu5.out)
      have ZvW3 := Lib.hid ((hbW3.block _ (Array.getElem?_eq_some_iff.1 Zvu5.out).1).trans Zvu5.out)
      have ZcW3 := Lib.hid ((hbW3.block _ (Array.getElem?_eq_some_iff.1 Zcu5.out).1).trans Zcu5.out)
      have ZlW3 := Lib.hid ((hbW3.block _ (Array.getElem?_eq_some_iff.1 Zlu5.out).1).trans Zlu5.out)
      have HBW3 := Lib.hid (thru hbW3 HBu5.out)
      have SBW3 := Lib.hid hbW3; clear hbW3
      have HWW3 := Lib.hid hW3; clear hW3
      rw [HWW3.out]
      have S3 := Lib.hid (Su5.out.trans (SBW3.out.mono Su5.out.size))
      have LI1 := Lib.hid (HT1.out.below (thru SBW3.out (thru LBu5.out (thru BL.out (thru SBW2.out LBu2.out)))))
      have LI2 := Lib.hid (RLI.out.below (thru SBW3.out LBu5.out))
      go_loopw [177] (fun i wr => ∃ j : Nat, j ≤ ml ∧ i = .int .i64 j ∧ Hid (sl = SL → ∀ t, t < j → L.getD t 0 = l.getD t 0) ∧ ∃ x, wr = gw W3 x) (fun i _ => ml - (intOf i).toNat)
      case atStart => exact ⟨0, Nat.zero_le _, rfl, Lib.hid (fun _ t ht => absurd ht (Nat.not_lt_zero t)), ⟨#[], W3.drawn⟩, by simp [gw]⟩
      case round =>
        obtain ⟨j, hj, rfl, PX, x, rfl⟩ := hrel
        by_cases hlt : j < ml
        rotate_left
        · obtain rfl : ml = j := by omega
          go_wp2_with fail
          refine (Calls.gw_of (alive_any _)).mono ?_
          rintro e w1 ⟨rfl, z61, rfl⟩
          go_wp2_with fail
          go_ret
          exact ⟨rfl, HBW3.out.gw z61⟩
        obtain ⟨b1, o1, e1, l1, h1⟩ := LI1.out.resolve_left (by have := HLL.out; have := HLH.out; have := HML.out; omega)
        cases e1
        obtain ⟨b2, o2, e2, l2, h2⟩ := LI2.out.resolve_left (by omega)
        cases e2
        have jH : j < H := by have := HLH.out; have := HML.out; omega
        have d1 := h1 j (by have := HLL.out; have := HLH.out; have := HML.out; omega)
        have d2 := h2 j hlt
        obtain ⟨xa, hxa⟩ : ∃ z, L.getD j 0 = z := ⟨_, rfl⟩
        obtain ⟨xb, hxb⟩ : ∃ z, l.getD j 0 = z := ⟨_, rfl⟩
        have HXA := Lib.hid hxa; have HXB := Lib.hid hxb
        simp only [hxa] at d1
        simp only [hxb] at d2
        clear h1 h2 hxa hxb
        by_cases hs : sl = SL
        rotate_left
        · skip
          have hsd : ((sl : Int) == (SL : Int)) = false := by simp; omega
          go_wp2_with fail
          refine wp_region_gw2 (by kernel_rfl) (by kernel_rfl) ?_
          repeat (go_big_quiet_step (fail))
          refine wpQuiet_nil ?_
          rintro _ ⟨z70, rfl⟩
          go_wp2_with fail
          go_roundw
          case rel => exact ⟨j + 1, by omega, by go_num, Lib.hid (fun e => absurd e hs), z70, rfl⟩
          case measure => simp [intOf]; omega
        have hse : ((sl : Int) == (SL : Int)) = true := by simp; omega
        have HSE := Lib.hid hs; clear hs
        by_cases hx : xa = xb
        · skip
          have hxd : ((xa : Int) != (xb : Int)) = false := by simp; omega
          have HXX := Lib.hid hx; clear hx
          go_wp2_with fail
          refine wp_region_gw2 (by kernel_rfl) (by kernel_rfl) ?_
          repeat (go_big_quiet_step (fail))
          refine wpQuiet_nil ?_
          rintro _ ⟨z70, rfl⟩
          go_wp2_with fail
          go_roundw
          case rel => exact ⟨j + 1, by omega, by go_num, Lib.hid (fun e => all_succ (P := fun t => L.getD t 0 = l.getD t 0) (PX.out e) (by rw [HXA.out, HXB.out]; exact HXX.out)), z70, rfl⟩
          case measure => simp [intOf]; omega
        have hxl : xa < xb := by have := LEX.out HSE.out j (by have := HLH.out; have := HML.out; omega) (PX.out HSE.out); rw [HXA.out, HXB.out] at this; omega
        have hxi : (xa : Int) < (xb : Int) := by omega
        have hxd : ((xa : Int) != (xb : Int)) = true := by simp; omega
        clear hx
        go_wp2_with fail
        refine wp_region_gw2 (by kernel_rfl) (by kernel_rfl) ?_
        repeat (go_big_quiet_step (fail))
        refine wpQuiet_nil ?_
        rintro _ ⟨z70, rfl⟩
        go_upto_region 38 with (fail)
        refine wp_region_gw2 (by kernel_rfl) (by kernel_rfl) ?_
        repeat (go_big_quiet_step (first | (go_at_call 18; with_reducible exact Calls.gw_of (alive_any _))))
        refine wpQuiet_nil ?_
        rintro _ ⟨z70, rfl⟩
        go_wp2_with fail
        go_ret
        exact ⟨rfl, HBW3.out.gw z70⟩
end Go.Proofs.Ytecbacbecopbeaa
