/- Contract of Cool. No conditions beyond each theorem's own. -/
import Derived.Test.YtecbacbecopbeaaCj
set_option linter.unusedVariables false
set_option linter.unusedSimpArgs false
set_option linter.unusedSectionVars false
set_option linter.constructorNameAsVariable false
namespace Go.Proofs.Ytecbacbecopbeaa
open Go.RowKit

attribute [local go_sem] gw_cell gw_frozen gw_size

def Ctx.coolE (c : Ctx) (v : Vat) (n : Int) : Int :=
  if ystB c.y = true ∧ vatB v = true ∧ allB c.k (inSp 150000 c.F c.G) = true ∧ ¬ c.lh < c.ll then (if inB c.k 1 4 = true ∧ inB n 0 6 = true then (if c.cool v n.toNat = none then 4 else 0) else 2) else 1
def Ctx.coolL (c : Ctx) (v : Vat) (n : Int) : List Nat := if c.coolE v n = 0 then (c.cool v n.toNat).getD [] else []
theorem Ctx.cool_arg {c : Ctx} {v : Vat} {n : Int} (h : ¬ (ystB c.y = true ∧ vatB v = true ∧ allB c.k (inSp 150000 c.F c.G) = true ∧ ¬ c.lh < c.ll)) : c.coolE v n = 1 ∧ c.coolL v n = [] := by
  have e : c.coolE v n = 1 := by unfold Ctx.coolE; rw [if_neg h]
  exact ⟨e, by unfold Ctx.coolL; rw [e]; rfl⟩
theorem Ctx.cool_range {c : Ctx} {v : Vat} {n : Int} (h : ystB c.y = true ∧ vatB v = true ∧ allB c.k (inSp 150000 c.F c.G) = true ∧ ¬ c.lh < c.ll) (h2 : ¬ (inB c.k 1 4 = true ∧ inB n 0 6 = true)) : c.coolE v n = 2 ∧ c.coolL v n = [] := by
  have e : c.coolE v n = 2 := by unfold Ctx.coolE; rw [if_pos h, if_neg h2]
  exact ⟨e, by unfold Ctx.coolL; rw [e]; rfl⟩
theorem Ctx.cool_none {c : Ctx} {v : Vat} {H : Nat} (h : ystB c.y = true ∧ vatB v = true ∧ allB c.k (inSp 150000 c.F c.G) = true ∧ ¬ c.lh < c.ll) (h2 : inB c.k 1 4 = true ∧ inB (H : Int) 0 6 = true) (h3 : c.cool v H = none) : c.coolE v (H : Int) = 4 ∧ c.coolL v (H : Int) = [] := by
  have e : c.coolE v (H : Int) = 4 := by unfold Ctx.coolE; rw [if_pos h, if_pos h2, if_pos (by simpa using h3)]
  exact ⟨e, by unfold Ctx.coolL; rw [e]; rfl⟩
theorem Ctx.cool_some {c : Ctx} {v : Vat} {H : Nat} {l : List Nat} (h : ystB c.y = true ∧ vatB v = true ∧ allB c.k (inSp 150000 c.F c.G) = true ∧ ¬ c.lh < c.ll) (h2 : inB c.k 1 4 = true ∧ inB (H : Int) 0 6 = true) (h3 : c.cool v H = some l) : c.coolE v (H : Int) = 0 ∧ c.coolL v (H : Int) = l := by
  have e : c.coolE v (H : Int) = 0 := by unfold Ctx.coolE; rw [if_pos h, if_pos h2, if_neg (by simp [h3])]
  exact ⟨e, by unfold Ctx.coolL; rw [if_pos e]; simp [h3]⟩
/-- what Cool hands back -/
def CoolR (c : Ctx) (v : Vat) (n : Int) (w : World) (e : Ending) (w' : World) : Prop :=
  ∃ a cp, e = .returned (.tuple #[.slice a (c.coolL v n).length cp, .int .i64 (c.coolE v n)]) ∧ IntsAt w' a (c.coolL v n).length (fun i => (((c.coolL v n).getD i 0 : Nat) : Int)) ∧ Below w.heap.size w w'
theorem cool_bad {c : Ctx} {v : Vat} {n x : Int} {w w' : World} {e : Ending} (h : c.coolE v n = x ∧ c.coolL v n = []) (he : e = .returned (.tuple #[.slice none 0 0, .int .i64 x])) (hb : Below w.heap.size w w') : CoolR c v n w e w' := by
  unfold CoolR
  rw [h.1, h.2]
  exact ⟨none, 0, he, .inl rfl, hb⟩

set_option maxRecDepth 100000 in
set_option maxHeartbeats 16000000 in
theorem Cool_any (c : Ctx) (aS : Option Addr) (cS : Nat) (v : Vat) (n : Int) (w : World) (hI : c.y.In w) (hf : c.y.Fits) (hS : SpansAt w aS c.k c.F c.G) (hk : c.k ≤ 9223372036854775807) :
    Calls Try.prog 45 #[c.y.val, v.val, .slice aS c.k cS, .int .i64 n, .agg #[.int .i64 c.ll, .int .i64 c.lh]] w (CoolR c v n w) := by
  unfold Yst.val Vat.val
  obtain ⟨W1, hW1⟩ : ∃ W1, ((((w.alloc (.cells #[.slice c.y.aT c.y.nT c.y.cT, .slice c.y.aR c.y.nR c.y.cR, .int .i64 c.y.sl, .int .i64 c.y.sh, .int .i64 c.y.gl, .int .i64 c.y.gh, .int .i64 c.y.hl, .int .i64 c.y.hh] 36)).alloc (.cells #[.int .i64 v.sl, .int .i64 v.sh, .int .i64 v.el, .int .i64 v.eh, .int .i64 v.pl, .int .i64 v.ph, .int .i64 v.gl, .int .i64 v.gh, .int .i64 v.ol, .int .i64 v.oh, .int .i64 v.tl, .int .i64 v.th, .int .i64 v.c] 38)).alloc (.cells #[.slice aS c.k cS] 34)).alloc (.cells #[.int .i64 n] 3)).alloc (.cells #[.int .i64 c.ll, .int .i64 c.lh] 23) = W1 := ⟨_, rfl⟩
  have hBc : Below w.heap.size w W1 := by rw [← hW1]; exact ((((below_alloc _ _).alloc (by simp) _).alloc (by simp <;> omega) _).alloc (by simp <;> omega) _).alloc (by simp <;> omega) _
  have zc0 : W1.heap[w.heap.size]? = some (.cells #[.slice c.y.aT c.y.nT c.y.cT, .slice c.y.aR c.y.nR c.y.cR, .int .i64 c.y.sl, .int .i64 c.y.sh, .int .i64 c.y.gl, .int .i64 c.y.gh, .int .i64 c.y.hl, .int .i64 c.y.hh] 36 (0, 0)) := by rw [← hW1]; exact alloc_keep (alloc_keep (alloc_keep (alloc_keep (alloc_at rfl))))
  have zc1 : W1.heap[w.heap.size + 1]? = some (.cells #[.int .i64 v.sl, .int .i64 v.sh, .int .i64 v.el, .int .i64 v.eh, .int .i64 v.pl, .int .i64 v.ph, .int .i64 v.gl, .int .i64 v.gh, .int .i64 v.ol, .int .i64 v.oh, .int .i64 v.tl, .int .i64 v.th, .int .i64 v.c] 38 (0, 0)) := by rw [← hW1]; exact alloc_keep (alloc_keep (alloc_keep (alloc_at (by simp))))
  have zc2 : W1.heap[w.heap.size + 1 + 1]? = some (.cells #[.slice aS c.k cS] 34 (0, 0)) := by rw [← hW1]; exact alloc_keep (alloc_keep (alloc_at (by simp <;> omega)))
  have zc3 : W1.heap[w.heap.size + 1 + 1 + 1]? = some (.cells #[.int .i64 n] 3 (0, 0)) := by rw [← hW1]; exact alloc_keep (alloc_at (by simp <;> omega))
  have zc4 : W1.heap[w.heap.size + 1 + 1 + 1 + 1]? = some (.cells #[.int .i64 c.ll, .int .i64 c.lh] 23 (0, 0)) := by rw [← hW1]; exact alloc_at (by simp <;> omega)
  have c00 : W1.cell? ⟨w.heap.size, 0, none⟩ = some (.slice c.y.aT c.y.nT c.y.cT) := cell_of_block zc0 0 (by simp)
  have c01 : W1.cell? ⟨w.heap.size, 1, none⟩ = some (.slice c.y.aR c.y.nR c.y.cR) := cell_of_block zc0 1 (by simp)
  have c02 : W1.cell? ⟨w.heap.size, 2, none⟩ = some (.int .i64 c.y.sl) := cell_of_block zc0 2 (by simp)
  have c03 : W1.cell? ⟨w.heap.size, 3, none⟩ = some (.int .i64 c.y.sh) := cell_of_block zc0 3 (by simp)
  have c04 : W1.cell? ⟨w.heap.size, 4, none⟩ = some (.int .i64 c.y.gl) := cell_of_block zc0 4 (by simp)
  have c05 : W1.cell? ⟨w.heap.size, 5, none⟩ = some (.int .i64 c.y.gh) := cell_of_block zc0 5 (by simp)
  have c06 : W1.cell? ⟨w.heap.size, 6, none⟩ = some (.int .i64 c.y.hl) := cell_of_block zc0 6 (by simp)
  have c07 : W1.cell? ⟨w.heap.size, 7, none⟩ = some (.int .i64 c.y.hh) := cell_of_block zc0 7 (by simp)
  have c10 : W1.cell? ⟨w.heap.size + 1, 0, none⟩ = some (.int .i64 v.sl) := cell_of_block zc1 0 (by simp)
  have c11 : W1.cell? ⟨w.heap.size + 1, 1, none⟩ = some (.int .i64 v.sh) := cell_of_block zc1 1 (by simp)
  have c12 : W1.cell? ⟨w.heap.size + 1, 2, none⟩ = some (.int .i64 v.el) := cell_of_block zc1 2 (by simp)
  have c13 : W1.cell? ⟨w.heap.size + 1, 3, none⟩ = some (.int .i64 v.eh) := cell_of_block zc1 3 (by simp)
  have c14 : W1.cell? ⟨w.heap.size + 1, 4, none⟩ = some (.int .i64 v.pl) := cell_of_block zc1 4 (by simp)
  have c15 : W1.cell? ⟨w.heap.size + 1, 5, none⟩ = some (.int .i64 v.ph) := cell_of_block zc1 5 (by simp)
  have c16 : W1.cell? ⟨w.heap.size + 1, 6, none⟩ = some (.int .i64 v.gl) := cell_of_block zc1 6 (by simp)
  have c17 : W1.cell? ⟨w.heap.size + 1, 7, none⟩ = some (.int .i64 v.gh) := cell_of_block zc1 7 (by simp)
  have c18 : W1.cell? ⟨w.heap.size + 1, 8, none⟩ = some (.int .i64 v.ol) := cell_of_block zc1 8 (by simp)
  have c19 : W1.cell? ⟨w.heap.size + 1, 9, none⟩ = some (.int .i64 v.oh) := cell_of_block zc1 9 (by simp)
  have c110 : W1.cell? ⟨w.heap.size + 1, 10, none⟩ = some (.int .i64 v.tl) := cell_of_block zc1 10 (by simp)
  have c111 : W1.cell? ⟨w.heap.size + 1, 11, none⟩ = some (.int .i64 v.th) := cell_of_block zc1 11 (by simp)
  have c112 : W1.cell? ⟨w.heap.size + 1, 12, none⟩ = some (.int .i64 v.c) := cell_of_block zc1 12 (by simp)
  have c20 : W1.cell? ⟨w.heap.size + 1 + 1, 0, none⟩ = some (.slice aS c.k cS) := cell_of_block zc2 0 (by simp)
  have c30 : W1.cell? ⟨w.heap.size + 1 + 1 + 1, 0, none⟩ = some (.int .i64 n) := cell_of_block zc3 0 (by simp)
  have c40 : W1.cell? ⟨w.heap.size + 1 + 1 + 1 + 1, 0, none⟩ = some (.int .i64 c.ll) := cell_of_block zc4 0 (by simp)
  have c41 : W1.cell? ⟨w.heap.size + 1 + 1 + 1 + 1, 1, none⟩ = some (.int .i64 c.lh) := cell_of_block zc4 1 (by simp)
  have lc0 := (Array.getElem?_eq_some_iff.1 zc0).1
  have lc1 := (Array.getElem?_eq_some_iff.1 zc1).1
  have lc2 := (Array.getElem?_eq_some_iff.1 zc2).1
  have lc3 := (Array.getElem?_eq_some_iff.1 zc3).1
  have lc4 := (Array.getElem?_eq_some_iff.1 zc4).1
  have Zc0 := Lib.hid zc0
  have Zc1 := Lib.hid zc1
  have Zc2 := Lib.hid zc2
  have Zc3 := Lib.hid zc3
  have Zc4 := Lib.hid zc4
  clear zc0 zc1 zc2 zc3 zc4
  have HBc := Lib.hid hBc; clear hBc
  have HWc := Lib.hid hW1; clear hW1
  have hmf : ∀ (fn : Fn) (first cap : Array Value) (w : World), (Instr.makeFunc fn first cap).run Try.prog w = .ok (.func fn first cap) w := fun _ _ _ _ => rfl
  have YB := Lib.hid (fun W (b : Bool) (hb : Below W1.heap.size W1 W) (h : ystB c.y = b) => isYeast_b c.y W ((hI.below HBc.out).below hb) hf h)
  unfold Yst.val at YB
  have VB := Lib.hid (fun W (b : Bool) (h : vatB v = b) => isVat_b v W h)
  unfold Vat.val at VB
  have CB := Lib.hid (fun W (hb : Below W1.heap.size W1 W) => areCoolings_any aS c.k cS c.F c.G W hk ((hS.below HBc.out).below hb))
  have HI := Lib.hid hI; have HS := Lib.hid hS; clear hI hS
  cases h1 : ystB c.y with
  | false =>
    have HE := Lib.hid (Ctx.cool_arg (c := c) (v := v) (n := n) (by simp [h1]))
    have H1 := Lib.hid h1; clear h1
    go_enter Try.func45, Try.ntmps45
    go_upto_region 1 with (fail)
    rw [HWc.out]
    go_wp2_with fail
    refine (Calls.grown (YB.out _ _ (Below.refl _ _) H1.out)).mono ?_
    rintro e w1 ⟨rfl, z1, rfl⟩
    go_wp2_with fail
    go_ret2
    exact cool_bad HE.out rfl (HBc.out.gw z1)
  | true =>
    cases h2 : vatB v with
    | false =>
      have HE := Lib.hid (Ctx.cool_arg (c := c) (v := v) (n := n) (by simp [h2]))
      have H1 := Lib.hid h1; clear h1
      have H2 := Lib.hid h2; clear h2
      go_enter Try.func45, Try.ntmps45
      go_upto_region 1 with (fail)
      rw [HWc.out]
      go_wp2_with fail
      refine (Calls.grown (YB.out _ _ (Below.refl _ _) H1.out)).mono ?_
      rintro e w1 ⟨rfl, z1, rfl⟩
      go_wp2_with fail
      refine (Calls.gw_of (VB.out _ _ H2.out)).mono ?_
      rintro e w1 ⟨rfl, z2, rfl⟩
      go_wp2_with fail
      go_ret2
      exact cool_bad HE.out rfl (HBc.out.gw z2)
    | true =>
      cases h3 : allB c.k (inSp 150000 c.F c.G) with
      | false =>
        have HE := Lib.hid (Ctx.cool_arg (c := c) (v := v) (n := n) (by simp [h3]))
        have H1 := Lib.hid h1; clear h1
        have H2 := Lib.hid h2; clear h2
        have H3 := Lib.hid (fun W hb => h3 ▸ CB.out W hb); clear h3
        go_enter Try.func45, Try.ntmps45
        go_upto_region 1 with (fail)
        rw [HWc.out]
        go_wp2_with fail
        refine (Calls.grown (YB.out _ _ (Below.refl _ _) H1.out)).mono ?_
        rintro e w1 ⟨rfl, z1, rfl⟩
        go_wp2_with fail
        refine (Calls.gw_of (VB.out _ _ H2.out)).mono ?_
        rintro e w1 ⟨rfl, z2, rfl⟩
        go_wp2_with fail
        refine (Calls.gw_of (H3.out _ (below_gw W1 z2))).mono ?_
        rintro e w1 ⟨rfl, z3, rfl⟩
        go_wp2_with fail
        go_ret2
        exact cool_bad HE.out rfl (HBc.out.gw z3)
      | true =>
        by_cases h4 : c.lh < c.ll
        · skip
          have HE := Lib.hid (Ctx.cool_arg (c := c) (v := v) (n := n) (by simp [h4]))
          have H1 := Lib.hid h1; clear h1
          have H2 := Lib.hid h2; clear h2
          have H3 := Lib.hid (fun W hb => h3 ▸ CB.out W hb); clear h3
          go_enter Try.func45, Try.ntmps45
          go_upto_region 1 with (fail)
          rw [HWc.out]
          go_wp2_with fail
          refine (Calls.grown (YB.out _ _ (Below.refl _ _) H1.out)).mono ?_
          rintro e w1 ⟨rfl, z1, rfl⟩
          go_wp2_with fail
          refine (Calls.gw_of (VB.out _ _ H2.out)).mono ?_
          rintro e w1 ⟨rfl, z2, rfl⟩
          go_wp2_with fail
          refine (Calls.gw_of (H3.out _ (below_gw W1 z2))).mono ?_
          rintro e w1 ⟨rfl, z3, rfl⟩
          go_wp2_with fail
          go_ret2
          exact cool_bad HE.out rfl (HBc.out.gw z3)
        have hA : ystB c.y = true ∧ vatB v = true ∧ allB c.k (inSp 150000 c.F c.G) = true ∧ ¬ c.lh < c.ll := ⟨h1, h2, h3, h4⟩
        have HA := Lib.hid hA; clear hA
        cases g1 : inB (c.k : Int) 1 4 with
        | false =>
          have HE := Lib.hid (Ctx.cool_range (n := n) HA.out (by simp [g1]))
          have H1 := Lib.hid h1; clear h1
          have H2 := Lib.hid h2; clear h2
          have H3 := Lib.hid (fun W hb => h3 ▸ CB.out W hb); clear h3
          have G1 := Lib.hid g1; clear g1
          go_enter Try.func45, Try.ntmps45
          go_upto_region 1 with (fail)
          rw [HWc.out]
          go_wp2_with fail
          refine (Calls.grown (YB.out _ _ (Below.refl _ _) H1.out)).mono ?_
          rintro e w1 ⟨rfl, z1, rfl⟩
          go_wp2_with fail
          refine (Calls.gw_of (VB.out _ _ H2.out)).mono ?_
          rintro e w1 ⟨rfl, z2, rfl⟩
          go_wp2_with fail
          refine (Calls.gw_of (H3.out _ (below_gw W1 z2))).mono ?_
          rintro e w1 ⟨rfl, z3, rfl⟩
          go_wp2_with fail
          refine (within_b _ _ _ _ G1.out).mono ?_
          rintro e w1 ⟨rfl, rfl⟩
          go_wp2_with fail
          go_ret2
          exact cool_bad HE.out rfl (HBc.out.gw z3)
        | true =>
          cases g2 : inB n 0 6 with
          | false =>
            have HE := Lib.hid (Ctx.cool_range (n := n) HA.out (by simp [g2]))
            have H1 := Lib.hid h1; clear h1
            have H2 := Lib.hid h2; clear h2
            have H3 := Lib.hid (fun W hb => h3 ▸ CB.out W hb); clear h3
            have G1 := Lib.hid g1; clear g1
            have G2 := Lib.hid g2; clear g2
            go_enter Try.func45, Try.ntmps45
            go_upto_region 1 with (fail)
            rw [HWc.out]
            go_wp2_with fail
            refine (Calls.grown (YB.out _ _ (Below.refl _ _) H1.out)).mono ?_
            rintro e w1 ⟨rfl, z1, rfl⟩
            go_wp2_with fail
            refine (Calls.gw_of (VB.out _ _ H2.out)).mono ?_
            rintro e w1 ⟨rfl, z2, rfl⟩
            go_wp2_with fail
            refine (Calls.gw_of (H3.out _ (below_gw W1 z2))).mono ?_
            rintro e w1 ⟨rfl, z3, rfl⟩
            go_wp2_with fail
            refine (within_b _ _ _ _ G1.out).mono ?_
            rintro e w1 ⟨rfl, rfl⟩
            go_wp2_with fail
            refine (within_b _ _ _ _ G2.out).mono ?_
            rintro e w1 ⟨rfl, rfl⟩
            go_wp2_with fail
            go_ret2
            exact cool_bad HE.out rfl (HBc.out.gw z3)
          | true =>
            obtain ⟨H, rfl⟩ : ∃ H : Nat, n = H := ⟨n.toNat, by have := (inB_t.1 g2).1; omega⟩
            have k0 := inB_t.1 g1
            have k1 := inB_t.1 g2
            have HG := Lib.hid (And.intro g1 g2)
            have CC := Lib.hid (allB_t.1 h3)
            have HYB := Lib.hid h1; have HVB := Lib.hid h2
            have G1 := Lib.hid g1; have G2 := Lib.hid g2; clear g1 g2
            have mm : H * c.k ≤ 24 := by have := Nat.mul_le_mul (show H ≤ 6 by omega) (show c.k ≤ 4 by omega); omega
            have mi : (H : Int) * (c.k : Int) = ((H * c.k : Nat) : Int) := (Int.natCast_mul H c.k).symm
            obtain ⟨M, hM⟩ : ∃ M, H * c.k = M := ⟨_, rfl⟩
            rw [hM] at mm mi
            have HM := Lib.hid hM; clear hM
            have H1 := Lib.hid h1; clear h1
            have H2 := Lib.hid h2; clear h2
            have H3 := Lib.hid (fun W hb => h3 ▸ CB.out W hb); clear h3
            go_enter Try.func45, Try.ntmps45
            go_upto_region 1 with (fail)
            rw [HWc.out]
            go_wp2_with fail
            refine (Calls.grown (YB.out _ _ (Below.refl _ _) H1.out)).mono ?_
            rintro e w1 ⟨rfl, z1, rfl⟩
            go_wp2_with fail
            refine (Calls.gw_of (VB.out _ _ H2.out)).mono ?_
            rintro e w1 ⟨rfl, z2, rfl⟩
            go_wp2_with fail
            refine (Calls.gw_of (H3.out _ (below_gw W1 z2))).mono ?_
            rintro e w1 ⟨rfl, z3, rfl⟩
            go_wp2_with fail
            refine (within_b _ _ _ _ G1.out).mono ?_
            rintro e w1 ⟨rfl, rfl⟩
            go_wp2_with fail
            refine (within_b _ _ _ _ G2.out).mono ?_
            rintro e w1 ⟨rfl, rfl⟩
            go_upto_region 6 with (fail)
            obtain ⟨W2, hW2⟩ : ∃ W2, (((gw W1 z3)).alloc (.cells #[.slice none 0 0] 33)).alloc (.cells #[.slice none 0 0] 33) = W2 := ⟨_, rfl⟩
            have hbW2 : Below W1.heap.size W1 W2 := by rw [← hW2]; exact ((below_gw W1 z3).alloc (by simp [gw_size]) _).alloc (by simp [gw_size] <;> omega) _
            have ZyW2 := Lib.hid ((hbW2.block _ (Array.getElem?_eq_some_iff.1 Zc0.out).1).trans Zc0.out)
            have ZvW2 := Lib.hid ((hbW2.block _ (Array.getElem?_eq_some_iff.1 Zc1.out).1).trans Zc1.out)
            have ZcW2 := Lib.hid ((hbW2.block _ (Array.getElem?_eq_some_iff.1 Zc2.out).1).trans Zc2.out)
            have ZhW2 := Lib.hid ((hbW2.block _ (Array.getElem?_eq_some_iff.1 Zc3.out).1).trans Zc3.out)
            have ZmW2 := Lib.hid ((hbW2.block _ (Array.getElem?_eq_some_iff.1 Zc4.out).1).trans Zc4.out)
            have zbW2 : W2.heap[W1.heap.size + z3.bs.size]? = some (.cells #[.slice none 0 0] 33 (0, 0)) := by rw [← hW2]; exact alloc_keep (alloc_at (by simp [gw_size]))
            have ZbW2 := Lib.hid zbW2; clear zbW2
            have znW2 : W2.heap[W1.heap.size + z3.bs.size + 1]? = some (.cells #[.slice none 0 0] 33 (0, 0)) := by rw [← hW2]; exact alloc_at (by simp [gw_size] <;> omega)
            have ZnW2 := Lib.hid znW2; clear znW2
            have HBW2 := Lib.hid (thru hbW2 HBc.out)
            have SBW2 := Lib.hid hbW2; clear hbW2
            have HWW2 := Lib.hid hW2; clear hW2
            rw [HWW2.out]
            clear c00 c01 c02 c03 c04 c05 c06 c07 c10 c11 c12 c13 c14 c15 c16 c17 c18 c19 c110 c111 c112 c20 c30 c40 c41
            have zsW2 := SBW2.out.size
            have eh0W2 : W2.cell? ⟨w.heap.size + 1 + 1 + 1, 0, none⟩ = some (.int .i64 (H : Int)) := cell_of_block ZhW2.out 0 (by simp)
            have lhW2 := (Array.getElem?_eq_some_iff.1 ZhW2.out).1
            have ec0W2 : W2.cell? ⟨w.heap.size + 1 + 1, 0, none⟩ = some (.slice aS c.k cS) := cell_of_block ZcW2.out 0 (by simp)
            have lcW2 := (Array.getElem?_eq_some_iff.1 ZcW2.out).1
            go_upto_region 7 with (fail)
            obtain ⟨W3, hW3⟩ : ∃ W3, ((W2)).alloc (.cells #[.int .i64 ((M : Int) + 1)] 3) = W3 := ⟨_, rfl⟩
            have hbW3 : Below W2.heap.size W2 W3 := by rw [← hW3]; exact (Below.refl _ W2).alloc (by simp [gw_size]) _
            have ZyW3 := Lib.hid ((hbW3.block _ (Array.getElem?_eq_some_iff.1 ZyW2.out).1).trans ZyW2.out)
            have ZvW3 := Lib.hid ((hbW3.block _ (Array.getElem?_eq_some_iff.1 ZvW2.out).1).trans ZvW2.out)
            have ZcW3 := Lib.hid ((hbW3.block _ (Array.getElem?_eq_some_iff.1 ZcW2.out).1).trans ZcW2.out)
            have ZhW3 := Lib.hid ((hbW3.block _ (Array.getElem?_eq_some_iff.1 ZhW2.out).1).trans ZhW2.out)
            have ZmW3 := Lib.hid ((hbW3.block _ (Array.getElem?_eq_some_iff.1 ZmW2.out).1).trans ZmW2.out)
            have ZbW3 := Lib.hid ((hbW3.block _ (Array.getElem?_eq_some_iff.1 ZbW2.out).1).trans ZbW2.out)
            have ZnW3 := Lib.hid ((hbW3.block _ (Array.getElem?_eq_some_iff.1 ZnW2.out).1).trans ZnW2.out)
            have zlW3 : W3.heap[W2.heap.size]? = some (.cells #[.int .i64 ((M : Int) + 1)] 3 (0, 0)) := by rw [← hW3]; exact alloc_at (by simp [gw_size])
            have ZlW3 := Lib.hid zlW3; clear zlW3
            have HBW3 := Lib.hid (thru hbW3 HBW2.out)
            have SBW3 := Lib.hid hbW3; clear hbW3
            have HWW3 := Lib.hid hW3; clear hW3
            rw [HWW3.out]
            clear eh0W2 ec0W2
            have zsW3 := SBW3.out.size
            go_upto_region 8 with (fail)
            obtain ⟨W4, hW4⟩ : ∃ W4, ((W3)).alloc (.cells #[.nilFunc] 101) = W4 := ⟨_, rfl⟩
            have hbW4 : Below W3.heap.size W3 W4 := by rw [← hW4]; exact (Below.refl _ W3).alloc (by simp [gw_size]) _
            have ZyW4 := Lib.hid ((hbW4.block _ (Array.getElem?_eq_some_iff.1 ZyW3.out).1).trans ZyW3.out)
            have ZvW4 := Lib.hid ((hbW4.block _ (Array.getElem?_eq_some_iff.1 ZvW3.out).1).trans ZvW3.out)
            have ZcW4 := Lib.hid ((hbW4.block _ (Array.getElem?_eq_some_iff.1 ZcW3.out).1).trans ZcW3.out)
            have ZhW4 := Lib.hid ((hbW4.block _ (Array.getElem?_eq_some_iff.1 ZhW3.out).1).trans ZhW3.out)
            have ZmW4 := Lib.hid ((hbW4.block _ (Array.getElem?_eq_some_iff.1 ZmW3.out).1).trans ZmW3.out)
            have ZbW4 := Lib.hid ((hbW4.block _ (Array.getElem?_eq_some_iff.1 ZbW3.out).1).trans ZbW3.out)
            have ZnW4 := Lib.hid ((hbW4.block _ (Array.getElem?_eq_some_iff.1 ZnW3.out).1).trans ZnW3.out)
            have ZlW4 := Lib.hid ((hbW4.block _ (Array.getElem?_eq_some_iff.1 ZlW3.out).1).trans ZlW3.out)
            have ztW4 : W4.heap[W3.heap.size]? = some (.cells #[.nilFunc] 101 (0, 0)) := by rw [← hW4]; exact alloc_at (by simp [gw_size])
            have ZtW4 := Lib.hid ztW4; clear ztW4
            have HBW4 := Lib.hid (thru hbW4 HBW3.out)
            have SBW4 := Lib.hid hbW4; clear hbW4
            have HWW4 := Lib.hid hW4; clear hW4
            rw [HWW4.out]
            have zsW4 := SBW4.out.size
            have et0W4 : W4.cell? ⟨W3.heap.size, 0, none⟩ = some (.nilFunc) := cell_of_block ZtW4.out 0 (by simp)
            have ft0W4 := frozen_of_block ZtW4.out 0
            have ltW4 := (Array.getElem?_eq_some_iff.1 ZtW4.out).1
            have y1 := (Array.getElem?_eq_some_iff.1 ZnW2.out).1
            have y2 := (Array.getElem?_eq_some_iff.1 ZlW3.out).1
            go_upto_region 9 with (fail)
            obtain ⟨W5, hW5⟩ : ∃ W5, (W4).setCell ⟨W3.heap.size, 0, none⟩ (.func (.func 80) #[] #[.pointer (some ⟨W2.heap.size, 0, none⟩), .pointer (some ⟨W1.heap.size + z3.bs.size + 1, 0, none⟩), .pointer (some ⟨w.heap.size + 1 + 1 + 1, 0, none⟩), .pointer (some ⟨W1.heap.size + z3.bs.size, 0, none⟩), .pointer (some ⟨w.heap.size + 1 + 1, 0, none⟩), .pointer (some ⟨w.heap.size, 0, none⟩), .pointer (some ⟨w.heap.size + 1 + 1 + 1 + 1, 0, none⟩), .pointer (some ⟨W3.heap.size, 0, none⟩)]) = W5 := ⟨_, rfl⟩
            have hgW5 : W4.grownBy W5 (some (W3.heap.size)) := by rw [← hW5]; exact grownBy_trans (grownBy_of_below (Below.refl _ W4) _) (grownBy_set _ _ _ _)
            have ZyW5 := Lib.hid ((hgW5.block _ (Array.getElem?_eq_some_iff.1 ZyW4.out).1 (by simp <;> omega)).trans ZyW4.out)
            have ZvW5 := Lib.hid ((hgW5.block _ (Array.getElem?_eq_some_iff.1 ZvW4.out).1 (by simp <;> omega)).trans ZvW4.out)
            have ZcW5 := Lib.hid ((hgW5.block _ (Array.getElem?_eq_some_iff.1 ZcW4.out).1 (by simp <;> omega)).trans ZcW4.out)
            have ZhW5 := Lib.hid ((hgW5.block _ (Array.getElem?_eq_some_iff.1 ZhW4.out).1 (by simp <;> omega)).trans ZhW4.out)
            have ZmW5 := Lib.hid ((hgW5.block _ (Array.getElem?_eq_some_iff.1 ZmW4.out).1 (by simp <;> omega)).trans ZmW4.out)
            have ZbW5 := Lib.hid ((hgW5.block _ (Array.getElem?_eq_some_iff.1 ZbW4.out).1 (by simp <;> omega)).trans ZbW4.out)
            have ZnW5 := Lib.hid ((hgW5.block _ (Array.getElem?_eq_some_iff.1 ZnW4.out).1 (by simp <;> omega)).trans ZnW4.out)
            have ZlW5 := Lib.hid ((hgW5.block _ (Array.getElem?_eq_some_iff.1 ZlW4.out).1 (by simp <;> omega)).trans ZlW4.out)
            have ZtW5 := Lib.hid (show W5.heap[W3.heap.size]? = some (.cells #[.func (.func 80) #[] #[.pointer (some ⟨W2.heap.size, 0, none⟩), .pointer (some ⟨W1.heap.size + z3.bs.size + 1, 0, none⟩), .pointer (some ⟨w.heap.size + 1 + 1 + 1, 0, none⟩), .pointer (some ⟨W1.heap.size + z3.bs.size, 0, none⟩), .pointer (some ⟨w.heap.size + 1 + 1, 0, none⟩), .pointer (some ⟨w.heap.size, 0, none⟩), .pointer (some ⟨w.heap.size + 1 + 1 + 1 + 1, 0, none⟩), .pointer (some ⟨W3.heap.size, 0, none⟩)]] 101 (0, 0)) by rw [← hW5]; exact block_set 0 _ (((Below.refl _ W4).block _ (Array.getElem?_eq_some_iff.1 ZtW4.out).1).trans ZtW4.out))
            have HBW5 := Lib.hid (HBW4.out.grown hgW5 HBW4.out.size (fun g hg => by cases hg; omega))
            have zsW5 := hgW5.size
            have GBW5 := Lib.hid hgW5; clear hgW5
            have HWW5 := Lib.hid hW5; clear hW5
            rw [HWW5.out]
            clear et0W4 ft0W4
            have et0W5 : W5.cell? ⟨W3.heap.size, 0, none⟩ = some (.func (.func 80) #[] #[.pointer (some ⟨W2.heap.size, 0, none⟩), .pointer (some ⟨W1.heap.size + z3.bs.size + 1, 0, none⟩), .pointer (some ⟨w.heap.size + 1 + 1 + 1, 0, none⟩), .pointer (some ⟨W1.heap.size + z3.bs.size, 0, none⟩), .pointer (some ⟨w.heap.size + 1 + 1, 0, none⟩), .pointer (some ⟨w.heap.size, 0, none⟩), .pointer (some ⟨w.heap.size + 1 + 1 + 1 + 1, 0, none⟩), .pointer (some ⟨W3.heap.size, 0, none⟩)]) := cell_of_block ZtW5.out 0 (by simp)
            have ltW5 := (Array.getElem?_eq_some_iff.1 ZtW5.out).1
            have ev0W5 : W5.cell? ⟨w.heap.size + 1, 0, none⟩ = some (.int .i64 v.sl) := cell_of_block ZvW5.out 0 (by simp)
            have ev1W5 : W5.cell? ⟨w.heap.size + 1, 1, none⟩ = some (.int .i64 v.sh) := cell_of_block ZvW5.out 1 (by simp)
            have ev2W5 : W5.cell? ⟨w.heap.size + 1, 2, none⟩ = some (.int .i64 v.el) := cell_of_block ZvW5.out 2 (by simp)
            have ev3W5 : W5.cell? ⟨w.heap.size + 1, 3, none⟩ = some (.int .i64 v.eh) := cell_of_block ZvW5.out 3 (by simp)
            have ev4W5 : W5.cell? ⟨w.heap.size + 1, 4, none⟩ = some (.int .i64 v.pl) := cell_of_block ZvW5.out 4 (by simp)
            have ev5W5 : W5.cell? ⟨w.heap.size + 1, 5, none⟩ = some (.int .i64 v.ph) := cell_of_block ZvW5.out 5 (by simp)
            have ev6W5 : W5.cell? ⟨w.heap.size + 1, 6, none⟩ = some (.int .i64 v.gl) := cell_of_block ZvW5.out 6 (by simp)
            have ev7W5 : W5.cell? ⟨w.heap.size + 1, 7, none⟩ = some (.int .i64 v.gh) := cell_of_block ZvW5.out 7 (by simp)
            have ev8W5 : W5.cell? ⟨w.heap.size + 1, 8, none⟩ = some (.int .i64 v.ol) := cell_of_block ZvW5.out 8 (by simp)
            have ev9W5 : W5.cell? ⟨w.heap.size + 1, 9, none⟩ = some (.int .i64 v.oh) := cell_of_block ZvW5.out 9 (by simp)
            have ev10W5 : W5.cell? ⟨w.heap.size + 1, 10, none⟩ = some (.int .i64 v.tl) := cell_of_block ZvW5.out 10 (by simp)
            have ev11W5 : W5.cell? ⟨w.heap.size + 1, 11, none⟩ = some (.int .i64 v.th) := cell_of_block ZvW5.out 11 (by simp)
            have ev12W5 : W5.cell? ⟨w.heap.size + 1, 12, none⟩ = some (.int .i64 v.c) := cell_of_block ZvW5.out 12 (by simp)
            have lvW5 := (Array.getElem?_eq_some_iff.1 ZvW5.out).1
            have T5 := Lib.hid (show TS w c (⟨W2.heap.size, W1.heap.size + z3.bs.size + 1, w.heap.size + 1 + 1 + 1, W1.heap.size + z3.bs.size, w.heap.size + 1 + 1, w.heap.size, w.heap.size + 1 + 1 + 1 + 1, W3.heap.size⟩ : Bx) (W3.heap.size + 1) H aS cS none [] [] (M + 1) W5 from ⟨HBW5.out, by have := ZlW5.out; rw [show ((M + 1 : Nat) : Int) = (M : Int) + 1 by omega]; exact this, ⟨none, 0, ZnW5.out, RowN.nil _ _, rfl⟩, ⟨none, 0, ZbW5.out, .inl rfl⟩, ZhW5.out, ZcW5.out, ZyW5.out, ZmW5.out, ZtW5.out⟩)
            have OKQ : Bx.Ok (⟨W2.heap.size, W1.heap.size + z3.bs.size + 1, w.heap.size + 1 + 1 + 1, W1.heap.size + z3.bs.size, w.heap.size + 1 + 1, w.heap.size, w.heap.size + 1 + 1 + 1 + 1, W3.heap.size⟩ : Bx) w.heap.size (W3.heap.size + 1) := ⟨by dsimp only; omega, by dsimp only; omega, by dsimp only; omega, by dsimp only; omega, by dsimp only; omega, by dsimp only; omega, by dsimp only; omega, by dsimp only; omega, rfl⟩
            have TR := try_any w c (⟨W2.heap.size, W1.heap.size + z3.bs.size + 1, w.heap.size + 1 + 1 + 1, W1.heap.size + z3.bs.size, w.heap.size + 1 + 1, w.heap.size, w.heap.size + 1 + 1 + 1 + 1, W3.heap.size⟩ : Bx) (W3.heap.size + 1) H aS cS OKQ HI.out hf HYB.out HS.out CC.out (by omega) (by omega) H v 0 [] [] (M + 1) none W5 T5.out (by simp) HVB.out (by have := HM.out; omega)
            rw [show ((0 : Nat) : Int) = 0 from rfl] at TR
            dsimp only at TR
            unfold Vat.val at TR
            have TR2 := Lib.hid TR; clear TR OKQ
            have CBB := cool_best (c := c) (v := v) (h := H) (by omega)
            rw [HM.out] at CBB
            have CB2 := Lib.hid CBB; clear CBB
            go_wp2_with fail
            refine TR2.out.mono ?_
            rintro e w6 ⟨⟨x6, rfl⟩, o6, t6, -⟩
            have cb := CB2.out
            obtain ⟨st, hst⟩ : ∃ s, c.tryF H v 0 [] ([], M + 1) = s := ⟨_, rfl⟩
            rw [hst] at t6 cb
            have T6 := Lib.hid t6; clear t6 hst TR2 CB2 et0W5 ev0W5 ev1W5 ev2W5 ev3W5 ev4W5 ev5W5 ev6W5 ev7W5 ev8W5 ev9W5 ev10W5 ev11W5 ev12W5
            obtain ⟨-, s2, -, ⟨ab, cb_, s6, s7⟩, s8, s9, -⟩ := T6.out
            dsimp only at s2 s6 s8 s9
            have e2 := cell_of_block s2 0 (by simp)
            have e6 := cell_of_block s6 0 (by simp)
            have e8 := cell_of_block s8 0 (by simp)
            have e9 := cell_of_block s9 0 (by simp)
            have l2 := (Array.getElem?_eq_some_iff.1 s2).1
            have l6 := (Array.getElem?_eq_some_iff.1 s6).1
            have l8 := (Array.getElem?_eq_some_iff.1 s8).1
            have l9 := (Array.getElem?_eq_some_iff.1 s9).1
            have S7 := Lib.hid s7
            clear s2 s6 s7 s8 s9
            cases hc : c.cool v H with
            | none =>
              have h5 := cb.2 hc
              have HE := Lib.hid (Ctx.cool_none ⟨HA.out.1, HA.out.2.1, HA.out.2.2.1, by have := HA.out.2.2.2; omega⟩ HG.out hc)
              have lt6 : (M : Int) < (st.2 : Int) := by omega
              clear cb hc h5
              go_wp2_with fail
              go_ret2
              exact cool_bad HE.out rfl T6.out.low
            | some l =>
              obtain ⟨h5, h6⟩ := cb.1 l hc
              have HE := Lib.hid (Ctx.cool_some ⟨HA.out.1, HA.out.2.1, HA.out.2.2.1, by have := HA.out.2.2.2; omega⟩ HG.out hc)
              have lt6 : ¬ (M : Int) < (st.2 : Int) := by omega
              have lt7 : decide ((M : Int) < (st.2 : Int)) = false := by simp; omega
              have H5 := Lib.hid h5
              clear cb hc h5
              go_wp2_with fail
              go_ret2
              unfold CoolR
              rw [HE.out.1, HE.out.2, ← H5.out]
              exact ⟨ab, cb_, rfl, S7.out.ints, T6.out.low⟩
end Go.Proofs.Ytecbacbecopbeaa
