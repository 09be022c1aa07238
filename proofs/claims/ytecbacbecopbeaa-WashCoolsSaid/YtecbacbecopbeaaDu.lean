/- WashCools walked: it returns true. No conditions beyond each theorem's own. -/
import Derived.Test.YtecbacbecopbeaaCm
import Derived.Test.YtecbacbecopbeaaBq
set_option linter.unusedVariables false
set_option linter.unusedSimpArgs false
set_option linter.unusedSectionVars false
set_option linter.constructorNameAsVariable false
namespace Go.Proofs.Ytecbacbecopbeaa
open Go.RowKit

attribute [local go_sem] gw_cell gw_frozen gw_size

theorem firstS_some {P : Nat → Option (List Nat)} {l : List Nat} : ∀ {n}, firstS P n = some l → ∃ s, s < n ∧ P s = some l ∧ ∀ t, t < s → P t = none
  | 0, h => by simp [firstS] at h
  | n + 1, h => by
    unfold firstS at h
    cases hf : firstS P n with
    | some l' =>
      rw [hf] at h
      simp only [Option.some.injEq] at h
      subst h
      obtain ⟨s, h1, h2, h3⟩ := firstS_some hf
      exact ⟨s, by omega, h2, h3⟩
    | none =>
      rw [hf] at h
      refine ⟨n, by omega, h, fun t ht => ?_⟩
      cases hp : P t with
      | none => rfl
      | some r =>
        exfalso
        exact absurd (firstS_hit ht hp) (by rw [hf]; simp)
where
  firstS_hit {P : Nat → Option (List Nat)} {r : List Nat} {t : Nat} : ∀ {n}, t < n → P t = some r → firstS P n ≠ none
  | 0, h, _ => by omega
  | n + 1, h, hp => by
    unfold firstS
    cases hf : firstS P n with
    | some l => simp
    | none =>
      by_cases e : t = n
      · subst e; simp [hp]
      · exact absurd hf (firstS_hit (by omega) hp)
theorem coolL_len (c : Ctx) (v : Vat) (n : Int) : (c.coolL v n).length ≤ 6 := by
  unfold Ctx.coolL
  split
  · rename_i he
    cases hc : c.cool v n.toNat with
    | none => simp
    | some l =>
      obtain ⟨s, _, h2, _⟩ := firstS_some hc
      have := (cools_some c _ _ _ _ h2).1
      unfold Ctx.coolE at he
      split at he
      · split at he
        · rename_i h3
          have := (inB_t.1 h3.2).2
          simp only [Option.getD_some]
          omega
        · omega
      · omega
  · simp

set_option maxRecDepth 100000 in
set_option maxHeartbeats 16000000 in
theorem cools_any (y : Yst) (v : Vat) (aS : Option Addr) (k cS : Nat) (F G : Nat → Int) (n ll lh : Int) (w : World) (hI : y.In w) (hf : y.Fits) (hS : SpansAt w aS k F G) (hk : k ≤ 9223372036854775807) :
    Calls Try.prog 12 #[y.val, v.val, .slice aS k cS, .int .i64 n, .agg #[.int .i64 ll, .int .i64 lh]] w (True1 w) := by
  unfold Yst.val Vat.val
  obtain ⟨W1, hW1⟩ : ∃ W1, ((w.alloc (.cells #[.slice y.aT y.nT y.cT, .slice y.aR y.nR y.cR, .int .i64 y.sl, .int .i64 y.sh, .int .i64 y.gl, .int .i64 y.gh, .int .i64 y.hl, .int .i64 y.hh] 36)).alloc (.cells #[.int .i64 v.sl, .int .i64 v.sh, .int .i64 v.el, .int .i64 v.eh, .int .i64 v.pl, .int .i64 v.ph, .int .i64 v.gl, .int .i64 v.gh, .int .i64 v.ol, .int .i64 v.oh, .int .i64 v.tl, .int .i64 v.th, .int .i64 v.c] 38)).alloc (.cells #[.int .i64 ll, .int .i64 lh] 23) = W1 := ⟨_, rfl⟩
  have hBc : Below w.heap.size w W1 := by rw [← hW1]; exact ((below_alloc _ _).alloc (by simp) _).alloc (by simp <;> omega) _
  have zc0 : W1.heap[w.heap.size]? = some (.cells #[.slice y.aT y.nT y.cT, .slice y.aR y.nR y.cR, .int .i64 y.sl, .int .i64 y.sh, .int .i64 y.gl, .int .i64 y.gh, .int .i64 y.hl, .int .i64 y.hh] 36 (0, 0)) := by rw [← hW1]; exact alloc_keep (alloc_keep (alloc_at rfl))
  have zc1 : W1.heap[w.heap.size + 1]? = some (.cells #[.int .i64 v.sl, .int .i64 v.sh, .int .i64 v.el, .int .i64 v.eh, .int .i64 v.pl, .int .i64 v.ph, .int .i64 v.gl, .int .i64 v.gh, .int .i64 v.ol, .int .i64 v.oh, .int .i64 v.tl, .int .i64 v.th, .int .i64 v.c] 38 (0, 0)) := by rw [← hW1]; exact alloc_keep (alloc_at (by simp))
  have zc2 : W1.heap[w.heap.size + 1 + 1]? = some (.cells #[.int .i64 ll, .int .i64 lh] 23 (0, 0)) := by rw [← hW1]; exact alloc_at (by simp <;> omega)
  have c00 : W1.cell? ⟨w.heap.size, 0, none⟩ = some (.slice y.aT y.nT y.cT) := cell_of_block zc0 0 (by simp)
  have c01 : W1.cell? ⟨w.heap.size, 1, none⟩ = some (.slice y.aR y.nR y.cR) := cell_of_block zc0 1 (by simp)
  have c02 : W1.cell? ⟨w.heap.size, 2, none⟩ = some (.int .i64 y.sl) := cell_of_block zc0 2 (by simp)
  have c03 : W1.cell? ⟨w.heap.size, 3, none⟩ = some (.int .i64 y.sh) := cell_of_block zc0 3 (by simp)
  have c04 : W1.cell? ⟨w.heap.size, 4, none⟩ = some (.int .i64 y.gl) := cell_of_block zc0 4 (by simp)
  have c05 : W1.cell? ⟨w.heap.size, 5, none⟩ = some (.int .i64 y.gh) := cell_of_block zc0 5 (by simp)
  have c06 : W1.cell? ⟨w.heap.size, 6, none⟩ = some (.int .i64 y.hl) := cell_of_block zc0 6 (by simp)
  have c07 : W1.cell? ⟨w.heap.size, 7, none⟩ = some (.int .i64 y.hh) := cell_of_block zc0 7 (by simp)
  have c10 : W1.cell? ⟨w.heap.size + 1, 0, none⟩ = some (.int .i64 v.sl) := cell_of_block zc1 0 (by simp)
  have c11 : W1.cell? ⟨w.heap.size + 1, 1, none⟩ = some (.int .i64 v.sh) := cell_of_block zc1 1 (by simp)
  have c12 : W1.cell? ⟨w.heap.size + 1, 2, none⟩ = some (.int .i64 v.el) := cell_of_block zc1 2 (by simp)
  have c13 : W1.cell? ⟨w.heap.size + 1, 3, none⟩ = some (.int .i64 v.eh) := cell_of_block zc1 3 (by simp)
  have c14 : W1.cell? ⟨w.heap.size + 1, 4, none⟩ = some (.int .i64 v.pl) := cell_of_block zc1 4 (by simp)
  have c15 : W1.cell? ⟨w.heap.size + 1, 5, none⟩ = some (.int .i64 v.ph) := cell_of_block zc1 5 (by simp)
  have c16 : W1.cell? ⟨w.heap.size + 1, 6, none⟩ = some (.int .i64 v.gl) := cell_of_block zc1 6 (by simp)
  have c17 : W1.cell? ⟨w.heap.size + 1, 7, none⟩ = some (.int .i64 v.gh) := cell_of_block zc1 7 (by simp)
  have c18 : W1.cell? ⟨w.heap.size + 1, 8, none⟩ = some (.int .i64 v.ol) := cell_of_block zc1 8 (by simp)
  have c19 : W1.cell? ⟨w.heap.size + 1, 9, none⟩ = some (.int .i64 v.oh) := cell_of_block zc1 9 (by simp)
  have c110 : W1.cell? ⟨w.heap.size + 1, 10, none⟩ = some (.int .i64 v.tl) := cell_of_block zc1 10 (by simp)
  have c111 : W1.cell? ⟨w.heap.size + 1, 11, none⟩ = some (.int .i64 v.th) := cell_of_block zc1 11 (by simp)
  have c112 : W1.cell? ⟨w.heap.size + 1, 12, none⟩ = some (.int .i64 v.c) := cell_of_block zc1 12 (by simp)
  have c20 : W1.cell? ⟨w.heap.size + 1 + 1, 0, none⟩ = some (.int .i64 ll) := cell_of_block zc2 0 (by simp)
  have c21 : W1.cell? ⟨w.heap.size + 1 + 1, 1, none⟩ = some (.int .i64 lh) := cell_of_block zc2 1 (by simp)
  have lc0 := (Array.getElem?_eq_some_iff.1 zc0).1
  have lc1 := (Array.getElem?_eq_some_iff.1 zc1).1
  have lc2 := (Array.getElem?_eq_some_iff.1 zc2).1
  have Zc0 := Lib.hid zc0
  have Zc1 := Lib.hid zc1
  have Zc2 := Lib.hid zc2
  clear zc0 zc1 zc2
  have HBc := Lib.hid hBc; clear hBc
  have HWc := Lib.hid hW1; clear hW1
  have CO := fun W (hb : Below W1.heap.size W1 W) => Cool_any ⟨y, k, F, G, ll, lh⟩ aS cS v n W ((hI.below HBc.out).below hb) hf ((hS.below HBc.out).below hb) hk
  have RC := fun W (hb : Below W1.heap.size W1 W) => rCool_any ⟨y, k, F, G, ll, lh⟩ aS cS v n W ((hI.below HBc.out).below hb) hf ((hS.below HBc.out).below hb) hk
  unfold CoolR at CO RC
  have ll_ := coolL_len ⟨y, k, F, G, ll, lh⟩ v n
  obtain ⟨L, hL⟩ : ∃ L, Ctx.coolL ⟨y, k, F, G, ll, lh⟩ v n = L := ⟨_, rfl⟩
  obtain ⟨E, hE⟩ : ∃ E, Ctx.coolE ⟨y, k, F, G, ll, lh⟩ v n = E := ⟨_, rfl⟩
  simp only [hL, hE] at CO RC ll_
  clear hL hE
  unfold Yst.val Vat.val at CO RC
  have CO' := Lib.hid CO; have RC' := Lib.hid RC; clear CO RC hI hS
  by_cases n1 : 20 < y.nT
  · skip
    go_enter Try.func12, Try.ntmps12
    go_upto_region 1 with (fail)
    rw [HWc.out]
    go_wp2_with fail
    refine (Calls.grown (alive_any _)).mono ?_
    rintro e w1 ⟨rfl, z1, rfl⟩
    go_wp2_with fail
    go_ret
    exact ⟨rfl, HBc.out.gw z1⟩
  by_cases n2 : 21 < y.nR
  · skip
    go_enter Try.func12, Try.ntmps12
    go_upto_region 1 with (fail)
    rw [HWc.out]
    go_wp2_with fail
    refine (Calls.grown (alive_any _)).mono ?_
    rintro e w1 ⟨rfl, z1, rfl⟩
    go_wp2_with fail
    go_ret
    exact ⟨rfl, HBc.out.gw z1⟩
  by_cases n3 : 10 < k
  · skip
    go_enter Try.func12, Try.ntmps12
    go_upto_region 1 with (fail)
    rw [HWc.out]
    go_wp2_with fail
    refine (Calls.grown (alive_any _)).mono ?_
    rintro e w1 ⟨rfl, z1, rfl⟩
    go_wp2_with fail
    go_ret
    exact ⟨rfl, HBc.out.gw z1⟩
  go_enter Try.func12, Try.ntmps12
  go_upto_region 1 with (fail)
  rw [HWc.out]
  go_wp2_with fail
  refine (CO'.out _ (Below.refl _ _)).mono ?_
  rintro e u1 ⟨a1, c1, rfl, hT1, hB1⟩
  have HT1 := Lib.hid hT1; have Su1 := Lib.hid hB1; clear hT1 hB1 c00 c01 c02 c03 c04 c05 c06 c07 c10 c11 c12 c13 c14 c15 c16 c17 c18 c19 c110 c111 c112 c20 c21
  have Zyu1 := Lib.hid ((Su1.out.block _ (Array.getElem?_eq_some_iff.1 Zc0.out).1).trans Zc0.out)
  have Zvu1 := Lib.hid ((Su1.out.block _ (Array.getElem?_eq_some_iff.1 Zc1.out).1).trans Zc1.out)
  have Zlu1 := Lib.hid ((Su1.out.block _ (Array.getElem?_eq_some_iff.1 Zc2.out).1).trans Zc2.out)
  have HBu1 := Lib.hid (thru Su1.out HBc.out)
  have ey0u1 : u1.cell? ⟨w.heap.size, 0, none⟩ = some (.slice y.aT y.nT y.cT) := cell_of_block Zyu1.out 0 (by simp)
  have ey1u1 : u1.cell? ⟨w.heap.size, 1, none⟩ = some (.slice y.aR y.nR y.cR) := cell_of_block Zyu1.out 1 (by simp)
  have ey2u1 : u1.cell? ⟨w.heap.size, 2, none⟩ = some (.int .i64 y.sl) := cell_of_block Zyu1.out 2 (by simp)
  have ey3u1 : u1.cell? ⟨w.heap.size, 3, none⟩ = some (.int .i64 y.sh) := cell_of_block Zyu1.out 3 (by simp)
  have ey4u1 : u1.cell? ⟨w.heap.size, 4, none⟩ = some (.int .i64 y.gl) := cell_of_block Zyu1.out 4 (by simp)
  have ey5u1 : u1.cell? ⟨w.heap.size, 5, none⟩ = some (.int .i64 y.gh) := cell_of_block Zyu1.out 5 (by simp)
  have ey6u1 : u1.cell? ⟨w.heap.size, 6, none⟩ = some (.int .i64 y.hl) := cell_of_block Zyu1.out 6 (by simp)
  have ey7u1 : u1.cell? ⟨w.heap.size, 7, none⟩ = some (.int .i64 y.hh) := cell_of_block Zyu1.out 7 (by simp)
  have lyu1 := (Array.getElem?_eq_some_iff.1 Zyu1.out).1
  have ev0u1 : u1.cell? ⟨w.heap.size + 1, 0, none⟩ = some (.int .i64 v.sl) := cell_of_block Zvu1.out 0 (by simp)
  have ev1u1 : u1.cell? ⟨w.heap.size + 1, 1, none⟩ = some (.int .i64 v.sh) := cell_of_block Zvu1.out 1 (by simp)
  have ev2u1 : u1.cell? ⟨w.heap.size + 1, 2, none⟩ = some (.int .i64 v.el) := cell_of_block Zvu1.out 2 (by simp)
  have ev3u1 : u1.cell? ⟨w.heap.size + 1, 3, none⟩ = some (.int .i64 v.eh) := cell_of_block Zvu1.out 3 (by simp)
  have ev4u1 : u1.cell? ⟨w.heap.size + 1, 4, none⟩ = some (.int .i64 v.pl) := cell_of_block Zvu1.out 4 (by simp)
  have ev5u1 : u1.cell? ⟨w.heap.size + 1, 5, none⟩ = some (.int .i64 v.ph) := cell_of_block Zvu1.out 5 (by simp)
  have ev6u1 : u1.cell? ⟨w.heap.size + 1, 6, none⟩ = some (.int .i64 v.gl) := cell_of_block Zvu1.out 6 (by simp)
  have ev7u1 : u1.cell? ⟨w.heap.size + 1, 7, none⟩ = some (.int .i64 v.gh) := cell_of_block Zvu1.out 7 (by simp)
  have ev8u1 : u1.cell? ⟨w.heap.size + 1, 8, none⟩ = some (.int .i64 v.ol) := cell_of_block Zvu1.out 8 (by simp)
  have ev9u1 : u1.cell? ⟨w.heap.size + 1, 9, none⟩ = some (.int .i64 v.oh) := cell_of_block Zvu1.out 9 (by simp)
  have ev10u1 : u1.cell? ⟨w.heap.size + 1, 10, none⟩ = some (.int .i64 v.tl) := cell_of_block Zvu1.out 10 (by simp)
  have ev11u1 : u1.cell? ⟨w.heap.size + 1, 11, none⟩ = some (.int .i64 v.th) := cell_of_block Zvu1.out 11 (by simp)
  have ev12u1 : u1.cell? ⟨w.heap.size + 1, 12, none⟩ = some (.int .i64 v.c) := cell_of_block Zvu1.out 12 (by simp)
  have lvu1 := (Array.getElem?_eq_some_iff.1 Zvu1.out).1
  have el0u1 : u1.cell? ⟨w.heap.size + 1 + 1, 0, none⟩ = some (.int .i64 ll) := cell_of_block Zlu1.out 0 (by simp)
  have el1u1 : u1.cell? ⟨w.heap.size + 1 + 1, 1, none⟩ = some (.int .i64 lh) := cell_of_block Zlu1.out 1 (by simp)
  have llu1 := (Array.getElem?_eq_some_iff.1 Zlu1.out).1
  go_wp2_with fail
  refine (RC'.out _ Su1.out).mono ?_
  rintro e u2 ⟨a2, c2, rfl, hT2, hB2⟩
  have SS := Lib.hid (ints_t a1 a2 L.length c1 c2 _ u2 (by omega) (HT1.out.below hB2) hT2)
  have HBu2 := Lib.hid (thru hB2 HBu1.out)
  clear hT2 hB2
  go_wp2_with fail
  refine (Calls.grown (SS.out)).mono ?_
  rintro e w1 ⟨rfl, z1, rfl⟩
  go_wp2_with fail
  refine (Calls.gw_of (alive_any _)).mono ?_
  rintro e w1 ⟨rfl, z2, rfl⟩
  go_wp2_with fail
  go_ret
  exact ⟨rfl, HBu2.out.gw z2⟩
end Go.Proofs.Ytecbacbecopbeaa
