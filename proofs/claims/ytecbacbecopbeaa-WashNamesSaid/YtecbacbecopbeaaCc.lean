/- Contract of Ferment (reference). No conditions beyond each theorem's own. -/
import Derived.Test.YtecbacbecopbeaaCb
set_option linter.unusedVariables false
set_option linter.unusedSimpArgs false
set_option linter.unusedSectionVars false
set_option linter.constructorNameAsVariable false
namespace Go.Proofs.Ytecbacbecopbeaa
open Go.RowKit

attribute [local go_sem] gw_cell gw_frozen gw_size

set_option maxRecDepth 100000 in
set_option maxHeartbeats 16000000 in
theorem rFerment_any (aS : Option Addr) (k cS : Nat) (F G : Nat → Int) (y : Yst) (v : Vat) (w : World) (hI : y.In w) (hf : y.Fits) (hS : SpansAt w aS k F G) (hk : k ≤ 9223372036854775807) :
    Calls Try.prog 36 #[y.val, v.val, .slice aS k cS] w (FerR y v k F G w) := by
  rw [show y.val = .agg #[.slice y.aT y.nT y.cT, .slice y.aR y.nR y.cR, .int .i64 y.sl, .int .i64 y.sh, .int .i64 y.gl, .int .i64 y.gh, .int .i64 y.hl, .int .i64 y.hh] from rfl, show v.val = .agg #[.int .i64 v.sl, .int .i64 v.sh, .int .i64 v.el, .int .i64 v.eh, .int .i64 v.pl, .int .i64 v.ph, .int .i64 v.gl, .int .i64 v.gh, .int .i64 v.ol, .int .i64 v.oh, .int .i64 v.tl, .int .i64 v.th, .int .i64 v.c] from rfl]
  obtain ⟨W1, hW1⟩ : ∃ W1, (w.alloc (.cells #[.slice y.aT y.nT y.cT, .slice y.aR y.nR y.cR, .int .i64 y.sl, .int .i64 y.sh, .int .i64 y.gl, .int .i64 y.gh, .int .i64 y.hl, .int .i64 y.hh] 36)).alloc (.cells #[.int .i64 v.sl, .int .i64 v.sh, .int .i64 v.el, .int .i64 v.eh, .int .i64 v.pl, .int .i64 v.ph, .int .i64 v.gl, .int .i64 v.gh, .int .i64 v.ol, .int .i64 v.oh, .int .i64 v.tl, .int .i64 v.th, .int .i64 v.c] 38) = W1 := ⟨_, rfl⟩
  have hBc : Below w.heap.size w W1 := by rw [← hW1]; exact (below_alloc _ _).alloc (by simp) _
  have zc0 : W1.heap[w.heap.size]? = some (.cells #[.slice y.aT y.nT y.cT, .slice y.aR y.nR y.cR, .int .i64 y.sl, .int .i64 y.sh, .int .i64 y.gl, .int .i64 y.gh, .int .i64 y.hl, .int .i64 y.hh] 36 (0, 0)) := by rw [← hW1]; exact alloc_keep (alloc_at rfl)
  have zc1 : W1.heap[w.heap.size + 1]? = some (.cells #[.int .i64 v.sl, .int .i64 v.sh, .int .i64 v.el, .int .i64 v.eh, .int .i64 v.pl, .int .i64 v.ph, .int .i64 v.gl, .int .i64 v.gh, .int .i64 v.ol, .int .i64 v.oh, .int .i64 v.tl, .int .i64 v.th, .int .i64 v.c] 38 (0, 0)) := by rw [← hW1]; exact alloc_at (by simp)
  have c00 : W1.cell? ⟨w.heap.size, 0, none⟩ = some (.slice y.aT y.nT y.cT) := cell_of_block zc0 0 (by simp)
  have c01 : W1.cell? ⟨w.heap.size, 1, none⟩ = some (.slice y.aR y.nR y.cR) := cell_of_block zc0 1 (by simp)
  have c02 : W1.cell? ⟨w.heap.size, 2, none⟩ = some (.int .i64 y.sl) := cell_of_block zc0 2 (by simp)
  have c03 : W1.cell? ⟨w.heap.size, 3, none⟩ = some (.int .i64 y.sh) := cell_of_block zc0 3 (by simp)
  have c04 : W1.cell? ⟨w.heap.size, 4, none⟩ = some (.int .i64 y.gl) := cell_of_block zc0 4 (by simp)
  have c05 : W1.cell? ⟨w.heap.size, 5, none⟩ = some (.int .i64 y.gh) := cell_of_block zc0 5 (by simp)
  have c06 : W1.cell? ⟨w.heap.size, 6, none⟩ = some (.int .i64 y.hl) := cell_of_block zc0 6 (by simp)
  have c07 : W1.cell? ⟨w.heap.size, 7, none⟩ = some (.int .i64 y.hh) := cell_of_block zc0 7 (by simp)
  have c10 : W1.cell? ⟨w.heap.size + 1, 0, none⟩ = some (.int .i64 v.sl) := cell_of_block zc1 0 (by simp)
  have c11 : W1.cell? ⟨w.heap.size + 1, 1, none⟩ = some (.int .i64 v.sh) := cell_of_block zc1 1 (by simp)
  have c12 : W1.cell? ⟨w.heap.size + 1, 2, none⟩ = some (.int .i64 v.el) := cell_of_block zc1 2 (by simp)
  have c13 : W1.cell? ⟨w.heap.size + 1, 3, none⟩ = some (.int .i64 v.eh) := cell_of_block zc1 3 (by simp)
  have c14 : W1.cell? ⟨w.heap.size + 1, 4, none⟩ = some (.int .i64 v.pl) := cell_of_block zc1 4 (by simp)
  have c15 : W1.cell? ⟨w.heap.size + 1, 5, none⟩ = some (.int .i64 v.ph) := cell_of_block zc1 5 (by simp)
  have c16 : W1.cell? ⟨w.heap.size + 1, 6, none⟩ = some (.int .i64 v.gl) := cell_of_block zc1 6 (by simp)
  have c17 : W1.cell? ⟨w.heap.size + 1, 7, none⟩ = some (.int .i64 v.gh) := cell_of_block zc1 7 (by simp)
  have c18 : W1.cell? ⟨w.heap.size + 1, 8, none⟩ = some (.int .i64 v.ol) := cell_of_block zc1 8 (by simp)
  have c19 : W1.cell? ⟨w.heap.size + 1, 9, none⟩ = some (.int .i64 v.oh) := cell_of_block zc1 9 (by simp)
  have c110 : W1.cell? ⟨w.heap.size + 1, 10, none⟩ = some (.int .i64 v.tl) := cell_of_block zc1 10 (by simp)
  have c111 : W1.cell? ⟨w.heap.size + 1, 11, none⟩ = some (.int .i64 v.th) := cell_of_block zc1 11 (by simp)
  have c112 : W1.cell? ⟨w.heap.size + 1, 12, none⟩ = some (.int .i64 v.c) := cell_of_block zc1 12 (by simp)
  have lc0 := (Array.getElem?_eq_some_iff.1 zc0).1
  have lc1 := (Array.getElem?_eq_some_iff.1 zc1).1
  have Zc0 := Lib.hid zc0
  have Zc1 := Lib.hid zc1
  clear zc0 zc1
  have HBc := Lib.hid hBc; clear hBc
  have HWc := Lib.hid hW1; clear hW1
  have YB := Lib.hid (fun W (b : Bool) (hb : Below W1.heap.size W1 W) (h : ystB y = b) => rYeast_b y W ((hI.below HBc.out).below hb) hf h)
  unfold Yst.val at YB
  have VB := Lib.hid (fun W (x : Vat) (b : Bool) (h : vatB x = b) => rVat_b x W h)
  unfold Vat.val at VB
  have CB := Lib.hid (fun W (cl ch : Int) (b : Bool) (h : spanB cl ch 0 150000 = b) => h ▸ rcool_any cl ch W)
  have HR := Lib.hid (fun W (x : Vat) (cl ch : Int) (hb : Below w.heap.size w W) (h1 : ystB y = true) (h2 : vatB x = true) (h3 : spanB cl ch 0 150000 = true) => rhour_any y x cl ch W (hI.below hb) hf h1 h2 (spanB_t.1 h3).1 (spanB_t.1 h3).2.1 (spanB_t.1 h3).2.2)
  unfold Yst.val at HR
  have HSw := Lib.hid hS
  have HS := Lib.hid (hS.below HBc.out); clear hS hI
  have sz := HBc.out.size
  by_cases h200 : 200 < k
  · have HE := Lib.hid (show ferE y v k F G = 3 by unfold ferE; rw [if_pos h200])
    go_enter Try.func36, Try.ntmps36
    go_upto_region 1 with (fail)
    rw [HWc.out]
    go_wp2_with fail
    go_ret2
    exact fer_bad HE.out (by decide) rfl (HBc.out)
  · cases h1 : ystB y with
    | false =>
      have HE := Lib.hid (show ferE y v k F G = 1 by unfold ferE; rw [if_neg h200, h1]; simp)
      have H1 := Lib.hid h1; clear h1
      go_enter Try.func36, Try.ntmps36
      go_upto_region 1 with (fail)
      rw [HWc.out]
      go_wp2_with fail
      refine (Calls.grown (YB.out _ _ (Below.refl _ _) H1.out)).mono ?_
      rintro e w1 ⟨rfl, z1, rfl⟩
      go_wp2_with fail
      go_ret2
      exact fer_bad HE.out (by decide) rfl (HBc.out.gw z1)
    | true =>
      cases h2 : vatB v with
      | false =>
        have HE := Lib.hid (show ferE y v k F G = 1 by unfold ferE; rw [if_neg h200, h2]; simp)
        have H1 := Lib.hid h1; clear h1
        have H2 := Lib.hid h2; clear h2
        go_enter Try.func36, Try.ntmps36
        go_upto_region 1 with (fail)
        rw [HWc.out]
        go_wp2_with fail
        refine (Calls.grown (YB.out _ _ (Below.refl _ _) H1.out)).mono ?_
        rintro e w1 ⟨rfl, z1, rfl⟩
        go_wp2_with fail
        refine (Calls.gw_of (VB.out _ v _ H2.out)).mono ?_
        rintro e w1 ⟨rfl, z2, rfl⟩
        go_wp2_with fail
        go_ret2
        exact fer_bad HE.out (by decide) rfl (HBc.out.gw z2)
      | true =>
        have EB := Lib.hid (fun i (hi : i < k) (h : inSp 150000 F G i = false) => show ferE y v k F G = 1 by unfold ferE; rw [if_neg h200, if_neg]; intro hh; have := allB_t.1 hh.2.2 i hi; rw [h] at this; cases this)
        have HE1 := Lib.hid (show (∀ i, i < k → inSp 150000 F G i = true) → y.stop v F G k < k → ferE y v k F G = 12 from fun h hm => by unfold ferE; rw [if_neg h200, if_pos ⟨h1, h2, allB_t.2 h⟩, if_pos hm])
        have HE0 := Lib.hid (show (∀ i, i < k → inSp 150000 F G i = true) → ¬ y.stop v F G k < k → ferE y v k F G = 0 from fun h hm => by unfold ferE; rw [if_neg h200, if_pos ⟨h1, h2, allB_t.2 h⟩, if_neg hm])
        have H1 := Lib.hid h1; clear h1
        have H2 := Lib.hid h2; clear h2
        go_enter Try.func36, Try.ntmps36
        go_upto_region 1 with (fail)
        rw [HWc.out]
        go_wp2_with fail
        refine (Calls.grown (YB.out _ _ (Below.refl _ _) H1.out)).mono ?_
        rintro e w1 ⟨rfl, z1, rfl⟩
        go_wp2_with fail
        refine (Calls.gw_of (VB.out _ v _ H2.out)).mono ?_
        rintro e w1 ⟨rfl, z2, rfl⟩
        go_wp2_with fail
        go_loopw [8] (fun t wr => ∃ i : Nat, i ≤ k ∧ t = .int .i64 i ∧ Hid (∀ t, t < i → inSp 150000 F G t = true) ∧ ∃ x, wr = gw W1 x) (fun t _ => k - (intOf t).toNat)
        case atStart => exact ⟨0, Nat.zero_le _, rfl, Lib.hid (fun t ht => absurd ht (Nat.not_lt_zero t)), z2, rfl⟩
        case round =>
          obtain ⟨i, hi, rfl, HP, x, rfl⟩ := hrel
          by_cases hlt : i < k
          · rcases HS.out with hz | ⟨b, off, rfl, lb, hc⟩
            · omega
            · obtain ⟨q0, q1⟩ := hc i hlt
              clear hc
              cases hp : inSp 150000 F G i with
              | false =>
                have T3 := Lib.hid (show spanB (F i) (G i) 0 150000 = false from hp)
                have HE := Lib.hid (EB.out i hlt hp); clear hp
                go_wp2_with fail
                refine (Calls.gw_of (CB.out _ _ _ _ T3.out)).mono ?_
                rintro e w1 ⟨rfl, z3, rfl⟩
                go_wp2_with fail
                go_ret2
                exact fer_bad HE.out (by decide) rfl (HBc.out.gw z3)
              | true =>
                have T3 := Lib.hid (show spanB (F i) (G i) 0 150000 = true from hp)
                have HN := Lib.hid (all_succ (P := fun i => inSp 150000 F G i = true) HP.out hp); clear hp
                go_wp2_with fail
                refine (Calls.gw_of (CB.out _ _ _ _ T3.out)).mono ?_
                rintro e w1 ⟨rfl, z3, rfl⟩
                go_wp2_with fail
                go_roundw
                case rel => exact ⟨i + 1, by omega, by go_num, HN, z3, rfl⟩
                case measure => simp [intOf]; omega
          · obtain rfl : i = k := by omega
            have hall := HP.out
            have CBA := Lib.hid hall
            have hm := okN_le (fun j => vatB (y.vs v F G (j + 1))) i
            have SL := Lib.hid (okN_lt (fun j => vatB (y.vs v F G (j + 1))) i)
            have SB_ := Lib.hid (okN_bad (fun j => vatB (y.vs v F G (j + 1))) i)
            have HE1b := Lib.hid (HE1.out hall)
            have HE0b := Lib.hid (HE0.out hall)
            unfold Yst.stop at HE1b HE0b
            obtain ⟨m, hmm⟩ : ∃ m, okN (fun j => vatB (y.vs v F G (j + 1))) i = m := ⟨_, rfl⟩
            rw [hmm] at hm SL SB_ HE1b HE0b
            clear hmm hall HP EB HE1 HE0
            have VOK := Lib.hid (show ∀ j, j ≤ m → vatB (y.vs v F G j) = true from fun j hj => by rcases j with _ | j; (· exact H2.out); (· exact SL.out j (by omega)))
            obtain ⟨j0, hj, hy0, hy1, hy2⟩ := info_parts infoVat
            have JI := Lib.hid hj; have Y0 := Lib.hid hy0; have Y1 := Lib.hid hy1; have Y2 := Lib.hid hy2
            clear hj hy0 hy1 hy2
            go_upto_region 11 with (fail)
            obtain ⟨W2, hW2⟩ : ∃ W2, gw W1 x = W2 := ⟨_, rfl⟩
            have hbW2 : Below W1.heap.size W1 W2 := by rw [← hW2]; exact below_gw W1 x
            have ZyW2 := Lib.hid ((hbW2.block _ (Array.getElem?_eq_some_iff.1 Zc0.out).1).trans Zc0.out)
            have ZvW2 := Lib.hid ((hbW2.block _ (Array.getElem?_eq_some_iff.1 Zc1.out).1).trans Zc1.out)
            have HBW2 := Lib.hid (thru hbW2 HBc.out)
            have SBW2 := Lib.hid hbW2; clear hbW2
            have HWW2 := Lib.hid hW2; clear hW2
            rw [HWW2.out]
            clear c00 c01 c02 c03 c04 c05 c06 c07 c10 c11 c12 c13 c14 c15 c16 c17 c18 c19 c110 c111 c112
            have zsW2 := SBW2.out.size
            go_wp2_with fail
            go_loopw [9, 10] (fun q t wr => ∃ j : Nat, j ≤ m ∧ t = .int .i64 j ∧ Hid (wr.ownsRow W2.heap.size 38 13 q j (y.outs v F G j)) ∧ Hid (wr.heap[w.heap.size + 1]? = some (.cells #[.int .i64 (y.vs v F G j).sl, .int .i64 (y.vs v F G j).sh, .int .i64 (y.vs v F G j).el, .int .i64 (y.vs v F G j).eh, .int .i64 (y.vs v F G j).pl, .int .i64 (y.vs v F G j).ph, .int .i64 (y.vs v F G j).gl, .int .i64 (y.vs v F G j).gh, .int .i64 (y.vs v F G j).ol, .int .i64 (y.vs v F G j).oh, .int .i64 (y.vs v F G j).tl, .int .i64 (y.vs v F G j).th, .int .i64 (y.vs v F G j).c] 38 (0, 0))) ∧ Hid (wr.heap[w.heap.size]? = some (.cells #[.slice y.aT y.nT y.cT, .slice y.aR y.nR y.cR, .int .i64 y.sl, .int .i64 y.sh, .int .i64 y.gl, .int .i64 y.gh, .int .i64 y.hl, .int .i64 y.hh] 36 (0, 0))) ∧ Hid (Below w.heap.size w wr) ∧ W2.heap.size ≤ wr.heap.size) (fun _ t _ => i - (intOf t).toNat)
            case atStart => exact ⟨0, Nat.zero_le _, rfl, Lib.hid (World.ownsRow_nil _ _ _ _), ZvW2, ZyW2, HBW2, Nat.le_refl _⟩
            case round =>
              obtain ⟨j, hj, rfl, HR_, X0, XY, HBr, zr⟩ := hrel
              by_cases hlt : j < i
              · obtain ⟨V, hV⟩ : ∃ V, y.vs v F G j = V := ⟨_, rfl⟩
                have vok := VOK.out j hj
                have cok := CBA.out j hlt
                have OS := Lib.hid (Yst.outs_succ y v F G j)
                rw [hV] at X0 vok
                obtain ⟨b, off, rfl, lb, hc⟩ := (HSw.out.below HBr.out).resolve_left (by omega)
                obtain ⟨q0, q1⟩ := hc j hlt
                clear hc
                have HRR := fun W hb => HR.out W V (F j) (G j) hb H1.out vok cok
                rw [show y.hour V (F j) (G j) = y.vs v F G (j + 1) by rw [← hV]; rfl] at HRR
                obtain ⟨f, hf0⟩ : ∃ f, F j = f := ⟨_, rfl⟩
                obtain ⟨g, hg0⟩ : ∃ g, G j = g := ⟨_, rfl⟩
                rw [hf0] at q0 HRR
                rw [hg0] at q1 HRR
                clear hf0 hg0 vok cok hV
                obtain ⟨Z, hZ⟩ : ∃ Z, y.vs v F G (j + 1) = Z := ⟨_, rfl⟩
                simp only [hZ] at HRR
                rw [hZ] at OS
                unfold Vat.val at HRR
                have HR2 := Lib.hid HRR; clear HRR
                have sz2 := (Array.getElem?_eq_some_iff.1 X0.out).1
                by_cases hjm : j < m
                · have vz : vatB Z = true := by rw [← hZ]; exact SL.out j hjm
                  have VZ := Lib.hid vz; have EZ := Lib.hid hZ; clear vz hZ
                  have ev0wr : wr.cell? ⟨w.heap.size + 1, 0, none⟩ = some (.int .i64 V.sl) := cell_of_block X0.out 0 (by simp)
                  have fv0wr := frozen_of_block X0.out 0
                  have ev1wr : wr.cell? ⟨w.heap.size + 1, 1, none⟩ = some (.int .i64 V.sh) := cell_of_block X0.out 1 (by simp)
                  have fv1wr := frozen_of_block X0.out 1
                  have ev2wr : wr.cell? ⟨w.heap.size + 1, 2, none⟩ = some (.int .i64 V.el) := cell_of_block X0.out 2 (by simp)
                  have fv2wr := frozen_of_block X0.out 2
                  have ev3wr : wr.cell? ⟨w.heap.size + 1, 3, none⟩ = some (.int .i64 V.eh) := cell_of_block X0.out 3 (by simp)
                  have fv3wr := frozen_of_block X0.out 3
                  have ev4wr : wr.cell? ⟨w.heap.size + 1, 4, none⟩ = some (.int .i64 V.pl) := cell_of_block X0.out 4 (by simp)
                  have fv4wr := frozen_of_block X0.out 4
                  have ev5wr : wr.cell? ⟨w.heap.size + 1, 5, none⟩ = some (.int .i64 V.ph) := cell_of_block X0.out 5 (by simp)
                  have fv5wr := frozen_of_block X0.out 5
                  have ev6wr : wr.cell? ⟨w.heap.size + 1, 6, none⟩ = some (.int .i64 V.gl) := cell_of_block X0.out 6 (by simp)
                  have fv6wr := frozen_of_block X0.out 6
                  have ev7wr : wr.cell? ⟨w.heap.size + 1, 7, none⟩ = some (.int .i64 V.gh) := cell_of_block X0.out 7 (by simp)
                  have fv7wr := frozen_of_block X0.out 7
                  have ev8wr : wr.cell? ⟨w.heap.size + 1, 8, none⟩ = some (.int .i64 V.ol) := cell_of_block X0.out 8 (by simp)
                  have fv8wr := frozen_of_block X0.out 8
                  have ev9wr : wr.cell? ⟨w.heap.size + 1, 9, none⟩ = some (.int .i64 V.oh) := cell_of_block X0.out 9 (by simp)
                  have fv9wr := frozen_of_block X0.out 9
                  have ev10wr : wr.cell? ⟨w.heap.size + 1, 10, none⟩ = some (.int .i64 V.tl) := cell_of_block X0.out 10 (by simp)
                  have fv10wr := frozen_of_block X0.out 10
                  have ev11wr : wr.cell? ⟨w.heap.size + 1, 11, none⟩ = some (.int .i64 V.th) := cell_of_block X0.out 11 (by simp)
                  have fv11wr := frozen_of_block X0.out 11
                  have ev12wr : wr.cell? ⟨w.heap.size + 1, 12, none⟩ = some (.int .i64 V.c) := cell_of_block X0.out 12 (by simp)
                  have fv12wr := frozen_of_block X0.out 12
                  have lvwr := (Array.getElem?_eq_some_iff.1 X0.out).1
                  have ey0wr : wr.cell? ⟨w.heap.size, 0, none⟩ = some (.slice y.aT y.nT y.cT) := cell_of_block XY.out 0 (by simp)
                  have ey1wr : wr.cell? ⟨w.heap.size, 1, none⟩ = some (.slice y.aR y.nR y.cR) := cell_of_block XY.out 1 (by simp)
                  have ey2wr : wr.cell? ⟨w.heap.size, 2, none⟩ = some (.int .i64 y.sl) := cell_of_block XY.out 2 (by simp)
                  have ey3wr : wr.cell? ⟨w.heap.size, 3, none⟩ = some (.int .i64 y.sh) := cell_of_block XY.out 3 (by simp)
                  have ey4wr : wr.cell? ⟨w.heap.size, 4, none⟩ = some (.int .i64 y.gl) := cell_of_block XY.out 4 (by simp)
                  have ey5wr : wr.cell? ⟨w.heap.size, 5, none⟩ = some (.int .i64 y.gh) := cell_of_block XY.out 5 (by simp)
                  have ey6wr : wr.cell? ⟨w.heap.size, 6, none⟩ = some (.int .i64 y.hl) := cell_of_block XY.out 6 (by simp)
                  have ey7wr : wr.cell? ⟨w.heap.size, 7, none⟩ = some (.int .i64 y.hh) := cell_of_block XY.out 7 (by simp)
                  have lywr := (Array.getElem?_eq_some_iff.1 XY.out).1
                  go_wp2_with fail
                  refine wp_region_gw_tail 7 (by kernel_rfl) (by kernel_rfl) ?_
                  simp only [List.take_succ_cons, List.take_zero]
                  repeat (go_big_quiet_step (first | (go_at_call 69; with_reducible exact Calls.gw_of (HR2.out _ (thru (below_gw wr _) HBr.out)))))
                  refine wpQuiet_nil ?_
                  rintro _ ⟨z7, rfl⟩
                  simp only [List.drop_succ_cons, List.drop_zero]
                  go_upto_region 15 with (fail)
                  obtain ⟨W3, hW3⟩ : ∃ W3, ((((((((((((((gw wr z7)).setCell ⟨w.heap.size + 1, 0, none⟩ (.int .i64 Z.sl)).setCell ⟨w.heap.size + 1, 1, none⟩ (.int .i64 Z.sh)).setCell ⟨w.heap.size + 1, 2, none⟩ (.int .i64 Z.el)).setCell ⟨w.heap.size + 1, 3, none⟩ (.int .i64 Z.eh)).setCell ⟨w.heap.size + 1, 4, none⟩ (.int .i64 Z.pl)).setCell ⟨w.heap.size + 1, 5, none⟩ (.int .i64 Z.ph)).setCell ⟨w.heap.size + 1, 6, none⟩ (.int .i64 Z.gl)).setCell ⟨w.heap.size + 1, 7, none⟩ (.int .i64 Z.gh)).setCell ⟨w.heap.size + 1, 8, none⟩ (.int .i64 Z.ol)).setCell ⟨w.heap.size + 1, 9, none⟩ (.int .i64 Z.oh)).setCell ⟨w.heap.size + 1, 10, none⟩ (.int .i64 Z.tl)).setCell ⟨w.heap.size + 1, 11, none⟩ (.int .i64 Z.th)).setCell ⟨w.heap.size + 1, 12, none⟩ (.int .i64 Z.c) = W3 := ⟨_, rfl⟩
                  have hsW3 : setAll (gw wr z7) (w.heap.size + 1) 0 [.int .i64 Z.sl, .int .i64 Z.sh, .int .i64 Z.el, .int .i64 Z.eh, .int .i64 Z.pl, .int .i64 Z.ph, .int .i64 Z.gl, .int .i64 Z.gh, .int .i64 Z.ol, .int .i64 Z.oh, .int .i64 Z.tl, .int .i64 Z.th, .int .i64 Z.c] = W3 := hW3
                  have hgW3 : wr.grownBy W3 (some (w.heap.size + 1)) := by rw [← hsW3]; exact grownBy_trans (grownBy_of_below (below_gw wr z7) _) (setAll_grown (w.heap.size + 1) [.int .i64 Z.sl, .int .i64 Z.sh, .int .i64 Z.el, .int .i64 Z.eh, .int .i64 Z.pl, .int .i64 Z.ph, .int .i64 Z.gl, .int .i64 Z.gh, .int .i64 Z.ol, .int .i64 Z.oh, .int .i64 Z.tl, .int .i64 Z.th, .int .i64 Z.c] 0 (gw wr z7))
                  have ZvW3 := Lib.hid (show W3.heap[w.heap.size + 1]? = some (.cells #[.int .i64 Z.sl, .int .i64 Z.sh, .int .i64 Z.el, .int .i64 Z.eh, .int .i64 Z.pl, .int .i64 Z.ph, .int .i64 Z.gl, .int .i64 Z.gh, .int .i64 Z.ol, .int .i64 Z.oh, .int .i64 Z.tl, .int .i64 Z.th, .int .i64 Z.c] 38 (0, 0)) by rw [← hsW3]; exact set_all [.int .i64 Z.sl, .int .i64 Z.sh, .int .i64 Z.el, .int .i64 Z.eh, .int .i64 Z.pl, .int .i64 Z.ph, .int .i64 Z.gl, .int .i64 Z.gh, .int .i64 Z.ol, .int .i64 Z.oh, .int .i64 Z.tl, .int .i64 Z.th, .int .i64 Z.c] (((below_gw wr z7).block _ (Array.getElem?_eq_some_iff.1 X0.out).1).trans X0.out) rfl)
                  have ZyW3 := Lib.hid ((hgW3.block _ (Array.getElem?_eq_some_iff.1 XY.out).1 (by simp <;> omega)).trans XY.out)
                  have HBW3 := Lib.hid (HBr.out.grown hgW3 HBr.out.size (fun g hg => by cases hg; omega))
                  have zsW3 := hgW3.size
                  have GBW3 := Lib.hid hgW3; clear hgW3 hsW3
                  have HWW3 := Lib.hid hW3; clear hW3
                  rw [HWW3.out]
                  clear ev0wr ev1wr ev2wr ev3wr ev4wr ev5wr ev6wr ev7wr ev8wr ev9wr ev10wr ev11wr ev12wr fv0wr fv1wr fv2wr fv3wr fv4wr fv5wr fv6wr fv7wr fv8wr fv9wr fv10wr fv11wr fv12wr ey0wr ey1wr ey2wr ey3wr ey4wr ey5wr ey6wr ey7wr q0 q1
                  have ev0W3 : W3.cell? ⟨w.heap.size + 1, 0, none⟩ = some (.int .i64 Z.sl) := cell_of_block ZvW3.out 0 (by simp)
                  have ev1W3 : W3.cell? ⟨w.heap.size + 1, 1, none⟩ = some (.int .i64 Z.sh) := cell_of_block ZvW3.out 1 (by simp)
                  have ev2W3 : W3.cell? ⟨w.heap.size + 1, 2, none⟩ = some (.int .i64 Z.el) := cell_of_block ZvW3.out 2 (by simp)
                  have ev3W3 : W3.cell? ⟨w.heap.size + 1, 3, none⟩ = some (.int .i64 Z.eh) := cell_of_block ZvW3.out 3 (by simp)
                  have ev4W3 : W3.cell? ⟨w.heap.size + 1, 4, none⟩ = some (.int .i64 Z.pl) := cell_of_block ZvW3.out 4 (by simp)
                  have ev5W3 : W3.cell? ⟨w.heap.size + 1, 5, none⟩ = some (.int .i64 Z.ph) := cell_of_block ZvW3.out 5 (by simp)
                  have ev6W3 : W3.cell? ⟨w.heap.size + 1, 6, none⟩ = some (.int .i64 Z.gl) := cell_of_block ZvW3.out 6 (by simp)
                  have ev7W3 : W3.cell? ⟨w.heap.size + 1, 7, none⟩ = some (.int .i64 Z.gh) := cell_of_block ZvW3.out 7 (by simp)
                  have ev8W3 : W3.cell? ⟨w.heap.size + 1, 8, none⟩ = some (.int .i64 Z.ol) := cell_of_block ZvW3.out 8 (by simp)
                  have ev9W3 : W3.cell? ⟨w.heap.size + 1, 9, none⟩ = some (.int .i64 Z.oh) := cell_of_block ZvW3.out 9 (by simp)
                  have ev10W3 : W3.cell? ⟨w.heap.size + 1, 10, none⟩ = some (.int .i64 Z.tl) := cell_of_block ZvW3.out 10 (by simp)
                  have ev11W3 : W3.cell? ⟨w.heap.size + 1, 11, none⟩ = some (.int .i64 Z.th) := cell_of_block ZvW3.out 11 (by simp)
                  have ev12W3 : W3.cell? ⟨w.heap.size + 1, 12, none⟩ = some (.int .i64 Z.c) := cell_of_block ZvW3.out 12 (by simp)
                  have lvW3 := (Array.getElem?_eq_some_iff.1 ZvW3.out).1
                  go_wp2_with fail
                  refine (Calls.grown (VB.out _ Z _ VZ.out)).mono ?_
                  rintro e w1 ⟨rfl, z8, rfl⟩
                  have HRV := Lib.hid (HR_.out.kept GBW3.out (.inr (Ne.symm (row_low HR_.out (by omega)))))
                  go_upto_region 17 with (fail)
                  obtain ⟨W4, hW4⟩ : ∃ W4, gw W3 z8 = W4 := ⟨_, rfl⟩
                  have hbW4 : Below W3.heap.size W3 W4 := by rw [← hW4]; exact below_gw W3 z8
                  have ZvW4 := Lib.hid ((hbW4.block _ (Array.getElem?_eq_some_iff.1 ZvW3.out).1).trans ZvW3.out)
                  have ZyW4 := Lib.hid ((hbW4.block _ (Array.getElem?_eq_some_iff.1 ZyW3.out).1).trans ZyW3.out)
                  have HBW4 := Lib.hid (thru hbW4 HBW3.out)
                  have SBW4 := Lib.hid hbW4; clear hbW4
                  have HWW4 := Lib.hid hW4; clear hW4
                  rw [HWW4.out]
                  clear ev0W3 ev1W3 ev2W3 ev3W3 ev4W3 ev5W3 ev6W3 ev7W3 ev8W3 ev9W3 ev10W3 ev11W3 ev12W3
                  have zsW4 := SBW4.out.size
                  have ev0W4 : W4.cell? ⟨w.heap.size + 1, 0, none⟩ = some (.int .i64 Z.sl) := cell_of_block ZvW4.out 0 (by simp)
                  have ev1W4 : W4.cell? ⟨w.heap.size + 1, 1, none⟩ = some (.int .i64 Z.sh) := cell_of_block ZvW4.out 1 (by simp)
                  have ev2W4 : W4.cell? ⟨w.heap.size + 1, 2, none⟩ = some (.int .i64 Z.el) := cell_of_block ZvW4.out 2 (by simp)
                  have ev3W4 : W4.cell? ⟨w.heap.size + 1, 3, none⟩ = some (.int .i64 Z.eh) := cell_of_block ZvW4.out 3 (by simp)
                  have ev4W4 : W4.cell? ⟨w.heap.size + 1, 4, none⟩ = some (.int .i64 Z.pl) := cell_of_block ZvW4.out 4 (by simp)
                  have ev5W4 : W4.cell? ⟨w.heap.size + 1, 5, none⟩ = some (.int .i64 Z.ph) := cell_of_block ZvW4.out 5 (by simp)
                  have ev6W4 : W4.cell? ⟨w.heap.size + 1, 6, none⟩ = some (.int .i64 Z.gl) := cell_of_block ZvW4.out 6 (by simp)
                  have ev7W4 : W4.cell? ⟨w.heap.size + 1, 7, none⟩ = some (.int .i64 Z.gh) := cell_of_block ZvW4.out 7 (by simp)
                  have ev8W4 : W4.cell? ⟨w.heap.size + 1, 8, none⟩ = some (.int .i64 Z.ol) := cell_of_block ZvW4.out 8 (by simp)
                  have ev9W4 : W4.cell? ⟨w.heap.size + 1, 9, none⟩ = some (.int .i64 Z.oh) := cell_of_block ZvW4.out 9 (by simp)
                  have ev10W4 : W4.cell? ⟨w.heap.size + 1, 10, none⟩ = some (.int .i64 Z.tl) := cell_of_block ZvW4.out 10 (by simp)
                  have ev11W4 : W4.cell? ⟨w.heap.size + 1, 11, none⟩ = some (.int .i64 Z.th) := cell_of_block ZvW4.out 11 (by simp)
                  have ev12W4 : W4.cell? ⟨w.heap.size + 1, 12, none⟩ = some (.int .i64 Z.c) := cell_of_block ZvW4.out 12 (by simp)
                  have lvW4 := (Array.getElem?_eq_some_iff.1 ZvW4.out).1
                  have HRW := Lib.hid (own_below HRV.out SBW4.out)
                  have LV : W2.heap.size ≤ W4.heap.size := by omega
                  have BV := Lib.hid (below_alloc W4 (.cells #[.int .i64 Z.sl, .int .i64 Z.sh, .int .i64 Z.el, .int .i64 Z.eh, .int .i64 Z.pl, .int .i64 Z.ph, .int .i64 Z.gl, .int .i64 Z.gh, .int .i64 Z.ol, .int .i64 Z.oh, .int .i64 Z.tl, .int .i64 Z.th, .int .i64 Z.c] 38))
                  go_wp2_with (at_builtin; refine wpList_append_own _ rfl _ _ 40 rfl W2.heap.size 38 j0 (.agg #[.int .i64 0, .int .i64 0, .int .i64 0, .int .i64 0, .int .i64 0, .int .i64 0, .int .i64 0, .int .i64 0, .int .i64 0, .int .i64 0, .int .i64 0, .int .i64 0, .int .i64 0]) 13 104 Try.underlying40 JI.out Y0.out Y1.out Y2.out rfl (by decide) _ j (y.outs v F G j) rfl (HRW.out.alloc _) ⟨W4.heap.size, 0, none⟩ 1 1 [.int .i64 Z.sl, .int .i64 Z.sh, .int .i64 Z.el, .int .i64 Z.eh, .int .i64 Z.pl, .int .i64 Z.ph, .int .i64 Z.gl, .int .i64 Z.gh, .int .i64 Z.ol, .int .i64 Z.oh, .int .i64 Z.tl, .int .i64 Z.th, .int .i64 Z.c] rfl rfl (news_lit _ _ _) (by simp [Value.oneCell']) (by unfold maxLen; omega) (by omega) (by simp; omega) ?_; intro v9 w9 hown9 hgrow9 _)
                  rw [← OS.out] at hown9
                  have HO9 := Lib.hid hown9
                  have B9 := Lib.hid ((HBW4.out.alloc HBW4.out.size (.cells #[.int .i64 Z.sl, .int .i64 Z.sh, .int .i64 Z.el, .int .i64 Z.eh, .int .i64 Z.pl, .int .i64 Z.ph, .int .i64 Z.gl, .int .i64 Z.gh, .int .i64 Z.ol, .int .i64 Z.oh, .int .i64 Z.tl, .int .i64 Z.th, .int .i64 Z.c] 38)).grown hgrow9 (by have := HBW4.out.size; simp; omega) (fun g hg => by have := (HRW.out.lt g hg).1; omega))
                  have kv := (hgrow9.block (w.heap.size + 1) (by simp; omega) (by have := row_low HRW.out (B := w.heap.size + 1) (by omega); first | exact this | exact Ne.symm this)).trans ((BV.out.block _ (by omega)).trans ZvW4.out)
                  have ky := (hgrow9.block (w.heap.size) (by simp; omega) (by have := row_low HRW.out (B := w.heap.size) (by omega); first | exact this | exact Ne.symm this)).trans ((BV.out.block _ (by omega)).trans ZyW4.out)
                  have z9 : W2.heap.size ≤ w9.heap.size := by have := hgrow9.size; simp at this; omega
                  rw [← EZ.out] at kv
                  have KV := Lib.hid kv; have KY := Lib.hid ky; clear kv ky hown9 hgrow9
                  go_wp2_with fail
                  go_roundw
                  case rel => exact ⟨j + 1, by omega, by go_num, HO9, KV, KY, B9, z9⟩
                  case measure => simp [intOf]; omega
                · obtain rfl : j = m := by omega
                  have vz : vatB Z = false := by rw [← hZ]; exact SB_.out hlt
                  have HE := HE1b.out hlt
                  have VZ := Lib.hid vz; have EZ := Lib.hid hZ; clear vz hZ
                  have ev0wr : wr.cell? ⟨w.heap.size + 1, 0, none⟩ = some (.int .i64 V.sl) := cell_of_block X0.out 0 (by simp)
                  have fv0wr := frozen_of_block X0.out 0
                  have ev1wr : wr.cell? ⟨w.heap.size + 1, 1, none⟩ = some (.int .i64 V.sh) := cell_of_block X0.out 1 (by simp)
                  have fv1wr := frozen_of_block X0.out 1
                  have ev2wr : wr.cell? ⟨w.heap.size + 1, 2, none⟩ = some (.int .i64 V.el) := cell_of_block X0.out 2 (by simp)
                  have fv2wr := frozen_of_block X0.out 2
                  have ev3wr : wr.cell? ⟨w.heap.size + 1, 3, none⟩ = some (.int .i64 V.eh) := cell_of_block X0.out 3 (by simp)
                  have fv3wr := frozen_of_block X0.out 3
                  have ev4wr : wr.cell? ⟨w.heap.size + 1, 4, none⟩ = some (.int .i64 V.pl) := cell_of_block X0.out 4 (by simp)
                  have fv4wr := frozen_of_block X0.out 4
                  have ev5wr : wr.cell? ⟨w.heap.size + 1, 5, none⟩ = some (.int .i64 V.ph) := cell_of_block X0.out 5 (by simp)
                  have fv5wr := frozen_of_block X0.out 5
                  have ev6wr : wr.cell? ⟨w.heap.size + 1, 6, none⟩ = some (.int .i64 V.gl) := cell_of_block X0.out 6 (by simp)
                  have fv6wr := frozen_of_block X0.out 6
                  have ev7wr : wr.cell? ⟨w.heap.size + 1, 7, none⟩ = some (.int .i64 V.gh) := cell_of_block X0.out 7 (by simp)
                  have fv7wr := frozen_of_block X0.out 7
                  have ev8wr : wr.cell? ⟨w.heap.size + 1, 8, none⟩ = some (.int .i64 V.ol) := cell_of_block X0.out 8 (by simp)
                  have fv8wr := frozen_of_block X0.out 8
                  have ev9wr : wr.cell? ⟨w.heap.size + 1, 9, none⟩ = some (.int .i64 V.oh) := cell_of_block X0.out 9 (by simp)
                  have fv9wr := frozen_of_block X0.out 9
                  have ev10wr : wr.cell? ⟨w.heap.size + 1, 10, none⟩ = some (.int .i64 V.tl) := cell_of_block X0.out 10 (by simp)
                  have fv10wr := frozen_of_block X0.out 10
                  have ev11wr : wr.cell? ⟨w.heap.size + 1, 11, none⟩ = some (.int .i64 V.th) := cell_of_block X0.out 11 (by simp)
                  have fv11wr := frozen_of_block X0.out 11
                  have ev12wr : wr.cell? ⟨w.heap.size + 1, 12, none⟩ = some (.int .i64 V.c) := cell_of_block X0.out 12 (by simp)
                  have fv12wr := frozen_of_block X0.out 12
                  have lvwr := (Array.getElem?_eq_some_iff.1 X0.out).1
                  have ey0wr : wr.cell? ⟨w.heap.size, 0, none⟩ = some (.slice y.aT y.nT y.cT) := cell_of_block XY.out 0 (by simp)
                  have ey1wr : wr.cell? ⟨w.heap.size, 1, none⟩ = some (.slice y.aR y.nR y.cR) := cell_of_block XY.out 1 (by simp)
                  have ey2wr : wr.cell? ⟨w.heap.size, 2, none⟩ = some (.int .i64 y.sl) := cell_of_block XY.out 2 (by simp)
                  have ey3wr : wr.cell? ⟨w.heap.size, 3, none⟩ = some (.int .i64 y.sh) := cell_of_block XY.out 3 (by simp)
                  have ey4wr : wr.cell? ⟨w.heap.size, 4, none⟩ = some (.int .i64 y.gl) := cell_of_block XY.out 4 (by simp)
                  have ey5wr : wr.cell? ⟨w.heap.size, 5, none⟩ = some (.int .i64 y.gh) := cell_of_block XY.out 5 (by simp)
                  have ey6wr : wr.cell? ⟨w.heap.size, 6, none⟩ = some (.int .i64 y.hl) := cell_of_block XY.out 6 (by simp)
                  have ey7wr : wr.cell? ⟨w.heap.size, 7, none⟩ = some (.int .i64 y.hh) := cell_of_block XY.out 7 (by simp)
                  have lywr := (Array.getElem?_eq_some_iff.1 XY.out).1
                  go_wp2_with fail
                  refine wp_region_gw_tail 7 (by kernel_rfl) (by kernel_rfl) ?_
                  simp only [List.take_succ_cons, List.take_zero]
                  repeat (go_big_quiet_step (first | (go_at_call 69; with_reducible exact Calls.gw_of (HR2.out _ (thru (below_gw wr _) HBr.out)))))
                  refine wpQuiet_nil ?_
                  rintro _ ⟨z7, rfl⟩
                  simp only [List.drop_succ_cons, List.drop_zero]
                  go_upto_region 15 with (fail)
                  obtain ⟨W3, hW3⟩ : ∃ W3, ((((((((((((((gw wr z7)).setCell ⟨w.heap.size + 1, 0, none⟩ (.int .i64 Z.sl)).setCell ⟨w.heap.size + 1, 1, none⟩ (.int .i64 Z.sh)).setCell ⟨w.heap.size + 1, 2, none⟩ (.int .i64 Z.el)).setCell ⟨w.heap.size + 1, 3, none⟩ (.int .i64 Z.eh)).setCell ⟨w.heap.size + 1, 4, none⟩ (.int .i64 Z.pl)).setCell ⟨w.heap.size + 1, 5, none⟩ (.int .i64 Z.ph)).setCell ⟨w.heap.size + 1, 6, none⟩ (.int .i64 Z.gl)).setCell ⟨w.heap.size + 1, 7, none⟩ (.int .i64 Z.gh)).setCell ⟨w.heap.size + 1, 8, none⟩ (.int .i64 Z.ol)).setCell ⟨w.heap.size + 1, 9, none⟩ (.int .i64 Z.oh)).setCell ⟨w.heap.size + 1, 10, none⟩ (.int .i64 Z.tl)).setCell ⟨w.heap.size + 1, 11, none⟩ (.int .i64 Z.th)).setCell ⟨w.heap.size + 1, 12, none⟩ (.int .i64 Z.c) = W3 := ⟨_, rfl⟩
                  have hsW3 : setAll (gw wr z7) (w.heap.size + 1) 0 [.int .i64 Z.sl, .int .i64 Z.sh, .int .i64 Z.el, .int .i64 Z.eh, .int .i64 Z.pl, .int .i64 Z.ph, .int .i64 Z.gl, .int .i64 Z.gh, .int .i64 Z.ol, .int .i64 Z.oh, .int .i64 Z.tl, .int .i64 Z.th, .int .i64 Z.c] = W3 := hW3
                  have hgW3 : wr.grownBy W3 (some (w.heap.size + 1)) := by rw [← hsW3]; exact grownBy_trans (grownBy_of_below (below_gw wr z7) _) (setAll_grown (w.heap.size + 1) [.int .i64 Z.sl, .int .i64 Z.sh, .int .i64 Z.el, .int .i64 Z.eh, .int .i64 Z.pl, .int .i64 Z.ph, .int .i64 Z.gl, .int .i64 Z.gh, .int .i64 Z.ol, .int .i64 Z.oh, .int .i64 Z.tl, .int .i64 Z.th, .int .i64 Z.c] 0 (gw wr z7))
                  have ZvW3 := Lib.hid (show W3.heap[w.heap.size + 1]? = some (.cells #[.int .i64 Z.sl, .int .i64 Z.sh, .int .i64 Z.el, .int .i64 Z.eh, .int .i64 Z.pl, .int .i64 Z.ph, .int .i64 Z.gl, .int .i64 Z.gh, .int .i64 Z.ol, .int .i64 Z.oh, .int .i64 Z.tl, .int .i64 Z.th, .int .i64 Z.c] 38 (0, 0)) by rw [← hsW3]; exact set_all [.int .i64 Z.sl, .int .i64 Z.sh, .int .i64 Z.el, .int .i64 Z.eh, .int .i64 Z.pl, .int .i64 Z.ph, .int .i64 Z.gl, .int .i64 Z.gh, .int .i64 Z.ol, .int .i64 Z.oh, .int .i64 Z.tl, .int .i64 Z.th, .int .i64 Z.c] (((below_gw wr z7).block _ (Array.getElem?_eq_some_iff.1 X0.out).1).trans X0.out) rfl)
                  have ZyW3 := Lib.hid ((hgW3.block _ (Array.getElem?_eq_some_iff.1 XY.out).1 (by simp <;> omega)).trans XY.out)
                  have HBW3 := Lib.hid (HBr.out.grown hgW3 HBr.out.size (fun g hg => by cases hg; omega))
                  have zsW3 := hgW3.size
                  have GBW3 := Lib.hid hgW3; clear hgW3 hsW3
                  have HWW3 := Lib.hid hW3; clear hW3
                  rw [HWW3.out]
                  clear ev0wr ev1wr ev2wr ev3wr ev4wr ev5wr ev6wr ev7wr ev8wr ev9wr ev10wr ev11wr ev12wr fv0wr fv1wr fv2wr fv3wr fv4wr fv5wr fv6wr fv7wr fv8wr fv9wr fv10wr fv11wr fv12wr ey0wr ey1wr ey2wr ey3wr ey4wr ey5wr ey6wr ey7wr q0 q1
                  have ev0W3 : W3.cell? ⟨w.heap.size + 1, 0, none⟩ = some (.int .i64 Z.sl) := cell_of_block ZvW3.out 0 (by simp)
                  have ev1W3 : W3.cell? ⟨w.heap.size + 1, 1, none⟩ = some (.int .i64 Z.sh) := cell_of_block ZvW3.out 1 (by simp)
                  have ev2W3 : W3.cell? ⟨w.heap.size + 1, 2, none⟩ = some (.int .i64 Z.el) := cell_of_block ZvW3.out 2 (by simp)
                  have ev3W3 : W3.cell? ⟨w.heap.size + 1, 3, none⟩ = some (.int .i64 Z.eh) := cell_of_block ZvW3.out 3 (by simp)
                  have ev4W3 : W3.cell? ⟨w.heap.size + 1, 4, none⟩ = some (.int .i64 Z.pl) := cell_of_block ZvW3.out 4 (by simp)
                  have ev5W3 : W3.cell? ⟨w.heap.size + 1, 5, none⟩ = some (.int .i64 Z.ph) := cell_of_block ZvW3.out 5 (by simp)
                  have ev6W3 : W3.cell? ⟨w.heap.size + 1, 6, none⟩ = some (.int .i64 Z.gl) := cell_of_block ZvW3.out 6 (by simp)
                  have ev7W3 : W3.cell? ⟨w.heap.size + 1, 7, none⟩ = some (.int .i64 Z.gh) := cell_of_block ZvW3.out 7 (by simp)
                  have ev8W3 : W3.cell? ⟨w.heap.size + 1, 8, none⟩ = some (.int .i64 Z.ol) := cell_of_block ZvW3.out 8 (by simp)
                  have ev9W3 : W3.cell? ⟨w.heap.size + 1, 9, none⟩ = some (.int .i64 Z.oh) := cell_of_block ZvW3.out 9 (by simp)
                  have ev10W3 : W3.cell? ⟨w.heap.size + 1, 10, none⟩ = some (.int .i64 Z.tl) := cell_of_block ZvW3.out 10 (by simp)
                  have ev11W3 : W3.cell? ⟨w.heap.size + 1, 11, none⟩ = some (.int .i64 Z.th) := cell_of_block ZvW3.out 11 (by simp)
                  have ev12W3 : W3.cell? ⟨w.heap.size + 1, 12, none⟩ = some (.int .i64 Z.c) := cell_of_block ZvW3.out 12 (by simp)
                  have lvW3 := (Array.getElem?_eq_some_iff.1 ZvW3.out).1
                  go_wp2_with fail
                  refine (Calls.grown (VB.out _ Z _ VZ.out)).mono ?_
                  rintro e w1 ⟨rfl, z8, rfl⟩
                  go_wp2_with fail
                  go_ret2
                  exact fer_bad HE (by decide) rfl (HBW3.out.gw z8)
              · obtain rfl : j = i := by omega
                obtain rfl : j = m := by omega
                have HE := HE0b.out (by omega)
                have hN : ferN y v j F G = j := by unfold ferN; rw [if_pos HE]
                have HEN := Lib.hid HE; have HNN := Lib.hid hN; clear HE hN
                go_wp2_with fail
                go_ret2
                exact ⟨_, by rw [HEN.out]; rfl, by rw [HNN.out]; exact HR_.out.base (by omega), HBr.out⟩
end Go.Proofs.Ytecbacbecopbeaa
