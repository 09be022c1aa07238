/- Contract of Cool (reference). No conditions beyond each theorem's own. -/
import Derived.Test.YtecbacbecopbeaaCl
import Derived.Test.YtecbacbecopbeaaBy
set_option linter.unusedVariables false
set_option linter.unusedSimpArgs false
set_option linter.unusedSectionVars false
set_option linter.constructorNameAsVariable false
namespace Go.Proofs.Ytecbacbecopbeaa
open Go.RowKit

attribute [local go_sem] gw_cell gw_frozen gw_size

set_option maxRecDepth 100000 in
set_option maxHeartbeats 16000000 in
theorem rCool_any (c : Ctx) (aS : Option Addr) (cS : Nat) (v : Vat) (n : Int) (w : World) (hI : c.y.In w) (hf : c.y.Fits) (hS : SpansAt w aS c.k c.F c.G) (hk : c.k ≤ 9223372036854775807) :
    Calls Try.prog 46 #[c.y.val, v.val, .slice aS c.k cS, .int .i64 n, .agg #[.int .i64 c.ll, .int .i64 c.lh]] w (CoolR c v n w) := by
  unfold Yst.val Vat.val
  obtain ⟨W1, hW1⟩ : ∃ W1, ((w.alloc (.cells #[.slice c.y.aT c.y.nT c.y.cT, .slice c.y.aR c.y.nR c.y.cR, .int .i64 c.y.sl, .int .i64 c.y.sh, .int .i64 c.y.gl, .int .i64 c.y.gh, .int .i64 c.y.hl, .int .i64 c.y.hh] 36)).alloc (.cells #[.int .i64 v.sl, .int .i64 v.sh, .int .i64 v.el, .int .i64 v.eh, .int .i64 v.pl, .int .i64 v.ph, .int .i64 v.gl, .int .i64 v.gh, .int .i64 v.ol, .int .i64 v.oh, .int .i64 v.tl, .int .i64 v.th, .int .i64 v.c] 38)).alloc (.cells #[.int .i64 c.ll, .int .i64 c.lh] 23) = W1 := ⟨_, rfl⟩
  have hBc : Below w.heap.size w W1 := by rw [← hW1]; exact ((below_alloc _ _).alloc (by simp) _).alloc (by simp <;> omega) _
  have zc0 : W1.heap[w.heap.size]? = some (.cells #[.slice c.y.aT c.y.nT c.y.cT, .slice c.y.aR c.y.nR c.y.cR, .int .i64 c.y.sl, .int .i64 c.y.sh, .int .i64 c.y.gl, .int .i64 c.y.gh, .int .i64 c.y.hl, .int .i64 c.y.hh] 36 (0, 0)) := by rw [← hW1]; exact alloc_keep (alloc_keep (alloc_at rfl))
  have zc1 : W1.heap[w.heap.size + 1]? = some (.cells #[.int .i64 v.sl, .int .i64 v.sh, .int .i64 v.el, .int .i64 v.eh, .int .i64 v.pl, .int .i64 v.ph, .int .i64 v.gl, .int .i64 v.gh, .int .i64 v.ol, .int .i64 v.oh, .int .i64 v.tl, .int .i64 v.th, .int .i64 v.c] 38 (0, 0)) := by rw [← hW1]; exact alloc_keep (alloc_at (by simp))
  have zc2 : W1.heap[w.heap.size + 1 + 1]? = some (.cells #[.int .i64 c.ll, .int .i64 c.lh] 23 (0, 0)) := by rw [← hW1]; exact alloc_at (by simp <;> omega)
  have c00 : W1.cell? ⟨w.heap.size, 0, none⟩ = some (.slice c.y.aT c.y.nT c.y.cT) := cell_of_block zc0 0 (by simp)
  have c01 : W1.cell? ⟨w.heap.size, 1, none⟩ = some (.slice c.y.aR c.y.nR c.y.cR) := cell_of_block zc0 1 (by simp)
  have c02 : W1.cell? ⟨w.heap.size, 2, none⟩ = some (.int .i64 c.y.sl) := cell_of_block zc0 2 (by simp)
  have c03 : W1.cell? ⟨w.heap.size, 3, none⟩ = some (.int .i64 c.y.sh) := cell_of_block zc0 3 (by simp)
  have c04 : W1.cell? ⟨w.heap.size, 4, none⟩ = some (.int .i64 c.y.gl) := cell_of_block zc0 4 (by simp)
  have c05 : W1.cell? ⟨w.heap.size, 5, none⟩ = some (.int .i64 c.y.gh) := cell_of_block zc0 5 (by simp)
  have c06 : W1.cell? ⟨w.heap.size, 6, none⟩ = some (.int .i64 c.y.hl) := cell_of_block zc0 6 (by simp)
  have c07 : W1.cell? ⟨w.heap.size, 7, none⟩ = some (.int .i64 c.y.hh) := cell_of_block zc0 7 (by simp)
  have c10 : W1.cell? ⟨w.heap.size + 1, 0, none⟩ = some (.int .i64 v.sl) := cell_of_block zc1 0 (by simp)
  have c11 : W1.cell? ⟨w.heap.size + 1, 1, none⟩ = some (.int .i64 v.sh) := cell_of_block zc1 1 (by simp)
  have c12 : W1.cell? ⟨w.heap.size + 1, 2, none⟩ = some (.int .i64 v.el) := cell_of_block zc1 2 (by simp)
  have c13 : W1.cell? ⟨w.heap.size + 1, 3, none⟩ = some (.int .i64 v.eh) := cell_of_block zc1 3 (by simp)
  have c14 : W1.cell? ⟨w.heap.size + 1, 4, none⟩ = some (.int .i64 v.pl) := cell_of_block zc1 4 (by simp)
  have c15 : W1.cell? ⟨w.heap.size + 1, 5, none⟩ = some (.int .i64 v.ph) := cell_of_block zc1 5 (by simp)
  have c16 : W1.cell? ⟨w.heap.size + 1, 6, none⟩ = some (.int .i64 v.gl) := cell_of_block zc1 6 (by simp)
  have c17 : W1.cell? ⟨w.heap.size + 1, 7, none⟩ = some (.int .i64 v.gh) := cell_of_block zc1 7 (by simp)
  have c18 : W1.cell? ⟨w.heap.size + 1, 8, none⟩ = some (.int .i64 v.ol) := cell_of_block zc1 8 (by simp)
  have c19 : W1.cell? ⟨w.heap.size + 1, 9, none⟩ = some (.int .i64 v.oh) := cell_of_block zc1 9 (by simp)
  have c110 : W1.cell? ⟨w.heap.size + 1, 10, none⟩ = some (.int .i64 v.tl) := cell_of_block zc1 10 (by simp)
  have c111 : W1.cell? ⟨w.heap.size + 1, 11, none⟩ = some (.int .i64 v.th) := cell_of_block zc1 11 (by simp)
  have c112 : W1.cell? ⟨w.heap.size + 1, 12, none⟩ = some (.int .i64 v.c) := cell_of_block zc1 12 (by simp)
  have c20 : W1.cell? ⟨w.heap.size + 1 + 1, 0, none⟩ = some (.int .i64 c.ll) := cell_of_block zc2 0 (by simp)
  have c21 : W1.cell? ⟨w.heap.size + 1 + 1, 1, none⟩ = some (.int .i64 c.lh) := cell_of_block zc2 1 (by simp)
  have lc0 := (Array.getElem?_eq_some_iff.1 zc0).1
  have lc1 := (Array.getElem?_eq_some_iff.1 zc1).1
  have lc2 := (Array.getElem?_eq_some_iff.1 zc2).1
  have Zc0 := Lib.hid zc0
  have Zc1 := Lib.hid zc1
  have Zc2 := Lib.hid zc2
  clear zc0 zc1 zc2
  have HBc := Lib.hid hBc; clear hBc
  have HWc := Lib.hid hW1; clear hW1
  have YB := Lib.hid (fun W (b : Bool) (hb : Below W1.heap.size W1 W) (h : ystB c.y = b) => rYeast_b c.y W ((hI.below HBc.out).below hb) hf h)
  unfold Yst.val at YB
  have VB := Lib.hid (fun W (b : Bool) (h : vatB v = b) => rVat_b v W h)
  unfold Vat.val at VB
  have CB := Lib.hid (fun W (cl ch : Int) (b : Bool) (h : spanB cl ch 0 150000 = b) => h ▸ rcool_any cl ch W)
  have HI := Lib.hid hI; have HS := Lib.hid hS; have HSw := Lib.hid (hS.below HBc.out); clear hI hS
  cases h1 : ystB c.y with
  | false =>
    have HE := Lib.hid (Ctx.cool_arg (c := c) (v := v) (n := n) (by simp [h1]))
    have H1 := Lib.hid h1; clear h1
    go_enter Try.func46, Try.ntmps46
    go_upto_region 1 with (fail)
    rw [HWc.out]
    go_wp2_with fail
    refine (Calls.grown (YB.out _ _ (Below.refl _ _) H1.out)).mono ?_
    rintro e w1 ⟨rfl, z1, rfl⟩
    go_wp2_with fail
    go_ret2
    exact cool_bad HE.out rfl (HBc.out.gw z1)
  | true =>
    cases h2 : vatB v with
    | false =>
      have HE := Lib.hid (Ctx.cool_arg (c := c) (v := v) (n := n) (by simp [h2]))
      have H1 := Lib.hid h1; clear h1
      have H2 := Lib.hid h2; clear h2
      go_enter Try.func46, Try.ntmps46
      go_upto_region 1 with (fail)
      rw [HWc.out]
      go_wp2_with fail
      refine (Calls.grown (YB.out _ _ (Below.refl _ _) H1.out)).mono ?_
      rintro e w1 ⟨rfl, z1, rfl⟩
      go_wp2_with fail
      refine (Calls.gw_of (VB.out _ _ H2.out)).mono ?_
      rintro e w1 ⟨rfl, z2, rfl⟩
      go_wp2_with fail
      go_ret2
      exact cool_bad HE.out rfl (HBc.out.gw z2)
    | true =>
      by_cases h4 : c.lh < c.ll
      · skip
        have HE := Lib.hid (Ctx.cool_arg (c := c) (v := v) (n := n) (by simp [h4]))
        have H1 := Lib.hid h1; clear h1
        have H2 := Lib.hid h2; clear h2
        go_enter Try.func46, Try.ntmps46
        go_upto_region 1 with (fail)
        rw [HWc.out]
        go_wp2_with fail
        refine (Calls.grown (YB.out _ _ (Below.refl _ _) H1.out)).mono ?_
        rintro e w1 ⟨rfl, z1, rfl⟩
        go_wp2_with fail
        refine (Calls.gw_of (VB.out _ _ H2.out)).mono ?_
        rintro e w1 ⟨rfl, z2, rfl⟩
        go_wp2_with fail
        go_ret2
        exact cool_bad HE.out rfl (HBc.out.gw z2)
      have YV := Lib.hid (And.intro h1 h2); have LI := Lib.hid (Int.not_lt.1 h4)
      have H1 := Lib.hid h1; clear h1
      have H2 := Lib.hid h2; clear h2
      go_enter Try.func46, Try.ntmps46
      go_upto_region 1 with (fail)
      rw [HWc.out]
      go_wp2_with fail
      refine (Calls.grown (YB.out _ _ (Below.refl _ _) H1.out)).mono ?_
      rintro e w1 ⟨rfl, z1, rfl⟩
      go_wp2_with fail
      refine (Calls.gw_of (VB.out _ _ H2.out)).mono ?_
      rintro e w1 ⟨rfl, z2, rfl⟩
      go_wp2_with fail
      go_loopw [12] (fun t wr => ∃ i : Nat, i ≤ c.k ∧ t = .int .i64 i ∧ Hid (∀ t, t < i → inSp 150000 c.F c.G t = true) ∧ ∃ x, wr = gw W1 x) (fun t _ => c.k - (intOf t).toNat)
      case atStart => exact ⟨0, Nat.zero_le _, rfl, Lib.hid (fun t ht => absurd ht (Nat.not_lt_zero t)), z2, rfl⟩
      case round =>
        obtain ⟨i, hi, rfl, HP, x, rfl⟩ := hrel
        by_cases hlt : i < c.k
        · obtain ⟨b, off, rfl, lb, hc⟩ := HSw.out.resolve_left (by omega)
          obtain ⟨q0, q1⟩ := hc i hlt
          clear hc
          cases hp : inSp 150000 c.F c.G i with
          | false =>
            have T3 := Lib.hid (show spanB (c.F i) (c.G i) 0 150000 = false from hp)
            have HE := Lib.hid (Ctx.cool_arg (c := c) (v := v) (n := n) (fun hh => by have := allB_t.1 hh.2.2.1 i hlt; rw [hp] at this; cases this)); clear hp
            go_wp2_with fail
            refine (Calls.gw_of (CB.out _ _ _ _ T3.out)).mono ?_
            rintro e w1 ⟨rfl, z3, rfl⟩
            go_wp2_with fail
            go_ret2
            exact cool_bad HE.out rfl (HBc.out.gw z3)
          | true =>
            have T3 := Lib.hid (show spanB (c.F i) (c.G i) 0 150000 = true from hp)
            have HN := Lib.hid (all_succ (P := fun i => inSp 150000 c.F c.G i = true) HP.out hp); clear hp
            go_wp2_with fail
            refine (Calls.gw_of (CB.out _ _ _ _ T3.out)).mono ?_
            rintro e w1 ⟨rfl, z3, rfl⟩
            go_wp2_with fail
            go_roundw
            case rel => exact ⟨i + 1, by omega, by go_num, HN, z3, rfl⟩
            case measure => simp [intOf]; omega
        · have hall : ∀ t, t < c.k → inSp 150000 c.F c.G t = true := fun t ht => HP.out t (by omega)
          have hA : ystB c.y = true ∧ vatB v = true ∧ allB c.k (inSp 150000 c.F c.G) = true ∧ ¬ c.lh < c.ll := ⟨YV.out.1, YV.out.2, allB_t.2 hall, by have := LI.out; omega⟩
          have HA := Lib.hid hA
          have CC := Lib.hid hall
          clear hA hall
          obtain rfl : i = c.k := by omega
          cases g1 : inB (c.k : Int) 1 4 with
          | false =>
            have HE := Lib.hid (Ctx.cool_range (n := n) ⟨HA.out.1, HA.out.2.1, HA.out.2.2.1, by have := HA.out.2.2.2; omega⟩ (by simp [g1]))
            have G1 := Lib.hid g1; clear g1
            go_wp2_with fail
            refine (rin_b _ _ _ _ G1.out).mono ?_
            rintro e w1 ⟨rfl, rfl⟩
            go_wp2_with fail
            go_ret2
            exact cool_bad HE.out rfl (HBc.out.gw x)
          | true =>
            cases g2 : inB n 0 6 with
            | false =>
              have HE := Lib.hid (Ctx.cool_range (n := n) ⟨HA.out.1, HA.out.2.1, HA.out.2.2.1, by have := HA.out.2.2.2; omega⟩ (by simp [g2]))
              have G1 := Lib.hid g1; clear g1
              have G2 := Lib.hid g2; clear g2
              go_wp2_with fail
              refine (rin_b _ _ _ _ G1.out).mono ?_
              rintro e w1 ⟨rfl, rfl⟩
              go_wp2_with fail
              refine (rin_b _ _ _ _ G2.out).mono ?_
              rintro e w1 ⟨rfl, rfl⟩
              go_wp2_with fail
              go_ret2
              exact cool_bad HE.out rfl (HBc.out.gw x)
            | true =>
              obtain ⟨H, rfl⟩ : ∃ H : Nat, n = H := ⟨n.toNat, by have := (inB_t.1 g2).1; omega⟩
              have k0 := inB_t.1 g1
              have k1 := inB_t.1 g2
              have HG := Lib.hid (And.intro g1 g2)
              have G1 := Lib.hid g1; have G2 := Lib.hid g2; clear g1 g2
              have mm : H * (c.k - 1) ≤ 24 := by have := Nat.mul_le_mul (show H ≤ 6 by omega) (show c.k - 1 ≤ 4 by omega); omega
              have mi : (H : Int) * ((c.k : Int) - 1) = ((H * (c.k - 1) : Nat) : Int) := by rw [Int.natCast_mul]; congr 1; omega
              have HCO := Lib.hid (show c.cool v H = firstS (c.cools H v) (H * (c.k - 1) + 1) from rfl)
              obtain ⟨M, hM⟩ : ∃ M, H * (c.k - 1) = M := ⟨_, rfl⟩
              rw [hM] at mm mi HCO
              clear hM
              go_wp2_with fail
              refine (rin_b _ _ _ _ G1.out).mono ?_
              rintro e w1 ⟨rfl, rfl⟩
              go_wp2_with fail
              refine (rin_b _ _ _ _ G2.out).mono ?_
              rintro e w1 ⟨rfl, rfl⟩
              go_wp2_with fail
              go_loopw [13] (fun t wr => ∃ s : Nat, s ≤ M + 1 ∧ t = .int .i64 s ∧ Hid (∀ t, t < s → c.cools H v t = none) ∧ ∃ x, wr = gw W1 x) (fun t _ => M + 1 - (intOf t).toNat)
              case atStart => exact ⟨0, Nat.zero_le _, rfl, Lib.hid (fun t ht => absurd ht (Nat.not_lt_zero t)), x, rfl⟩
              case round =>
                obtain ⟨s, hs, rfl, HPS, x, rfl⟩ := hrel
                by_cases hsl : s ≤ M
                rotate_left
                · have HE := Lib.hid (Ctx.cool_none ⟨HA.out.1, HA.out.2.1, HA.out.2.2.1, by have := HA.out.2.2.2; omega⟩ HG.out (HCO.out.trans (firstS_none (fun t ht => HPS.out t (by omega)))))
                  have hsd : decide ((s : Int) ≤ (M : Int)) = false := by simp; omega
                  go_wp2_with fail
                  go_ret2
                  exact cool_bad HE.out rfl (HBc.out.gw x)
                have hsi : (s : Int) ≤ (M : Int) := by omega
                have RC := rcools_any c aS cS hf HA.out.1 CC.out (by omega) H v s
                obtain ⟨RO, hRO⟩ : ∃ r, c.cools H v s = r := ⟨_, rfl⟩
                rw [hRO] at RC
                have RO2 := Lib.hid hRO
                have RC2 := Lib.hid (fun W (hb : Below w.heap.size w W) => RC W (HI.out.below hb) (HS.out.below hb) HA.out.2.1 (by omega) (by omega))
                unfold Yst.val Vat.val at RC2
                clear RC hRO
                go_wp2_with fail
                refine (RC2.out _ (thru (below_gw W1 x) HBc.out)).mono ?_
                rintro e w20 ⟨a2, c2_, rfl, hr2, hb2⟩
                have HR3 := Lib.hid hr2
                have HB20 := Lib.hid (thru hb2 (thru (below_gw W1 x) HBc.out))
                obtain ⟨x9, hx9⟩ := gw_of_below (thru hb2 (below_gw W1 x))
                have HX9 := Lib.hid hx9; clear hr2 hb2 hx9 RC2
                cases RO with
                | none =>
                  have HPN := Lib.hid (all_succ (P := fun t => c.cools H v t = none) HPS.out RO2.out)
                  go_wp2_with fail
                  go_roundw
                  case rel => exact ⟨s + 1, by omega, by go_num, HPN, x9, HX9.out⟩
                  case measure => simp [intOf]; omega
                | some r =>
                  have HE := Lib.hid (Ctx.cool_some ⟨HA.out.1, HA.out.2.1, HA.out.2.2.1, by have := HA.out.2.2.2; omega⟩ HG.out (HCO.out.trans (firstS_at (show s < M + 1 by omega) RO2.out HPS.out)))
                  go_wp2_with fail
                  go_ret2
                  unfold CoolR
                  rw [HE.out.1, HE.out.2]
                  exact ⟨a2, c2_, rfl, RowN.ints (show RowN w20 _ a2 r c2_ from HR3.out), HB20.out⟩
end Go.Proofs.Ytecbacbecopbeaa
