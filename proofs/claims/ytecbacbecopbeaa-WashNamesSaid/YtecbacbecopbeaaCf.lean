/- First (program). No conditions beyond each theorem's own. -/
import Derived.Test.YtecbacbecopbeaaCe
set_option linter.unusedVariables false
set_option linter.unusedSimpArgs false
set_option linter.unusedSectionVars false
set_option linter.constructorNameAsVariable false
namespace Go.Proofs.Ytecbacbecopbeaa
open Go.RowKit

attribute [local go_sem] gw_cell gw_frozen gw_size

set_option maxRecDepth 100000 in
set_option maxHeartbeats 2000000 in
theorem first1_any (bl : Nat) (ll lh : Int) (f : Nat → Int) (w : World) (hb : bl < w.heap.size) (h0 : w.cell? ⟨bl, 0, none⟩ = some (.int .i64 ll)) (h1 : w.cell? ⟨bl, 1, none⟩ = some (.int .i64 lh)) :
    Calls Try.prog 71 #[.agg #[.int .i64 (f 0), .int .i64 (f 1), .int .i64 (f 2), .int .i64 (f 3), .int .i64 (f 4), .int .i64 (f 5), .int .i64 (f 6), .int .i64 (f 7), .int .i64 (f 8), .int .i64 (f 9), .int .i64 (f 10), .int .i64 (f 11), .int .i64 (f 12)], .pointer (some ⟨bl, 0, none⟩)] w fun e w' => e = .returned (.bool (!insB (f 10) (f 11) ll lh)) ∧ Below w.heap.size w w' := by
  obtain ⟨W1, hW1⟩ : ∃ W1, w.alloc (.cells #[.int .i64 (f 0), .int .i64 (f 1), .int .i64 (f 2), .int .i64 (f 3), .int .i64 (f 4), .int .i64 (f 5), .int .i64 (f 6), .int .i64 (f 7), .int .i64 (f 8), .int .i64 (f 9), .int .i64 (f 10), .int .i64 (f 11), .int .i64 (f 12)] 38) = W1 := ⟨_, rfl⟩
  have hBc : Below w.heap.size w W1 := by rw [← hW1]; exact below_alloc _ _
  have zc0 : W1.heap[w.heap.size]? = some (.cells #[.int .i64 (f 0), .int .i64 (f 1), .int .i64 (f 2), .int .i64 (f 3), .int .i64 (f 4), .int .i64 (f 5), .int .i64 (f 6), .int .i64 (f 7), .int .i64 (f 8), .int .i64 (f 9), .int .i64 (f 10), .int .i64 (f 11), .int .i64 (f 12)] 38 (0, 0)) := by rw [← hW1]; exact alloc_at rfl
  have c00 : W1.cell? ⟨w.heap.size, 0, none⟩ = some (.int .i64 (f 0)) := cell_of_block zc0 0 (by simp)
  have c01 : W1.cell? ⟨w.heap.size, 1, none⟩ = some (.int .i64 (f 1)) := cell_of_block zc0 1 (by simp)
  have c02 : W1.cell? ⟨w.heap.size, 2, none⟩ = some (.int .i64 (f 2)) := cell_of_block zc0 2 (by simp)
  have c03 : W1.cell? ⟨w.heap.size, 3, none⟩ = some (.int .i64 (f 3)) := cell_of_block zc0 3 (by simp)
  have c04 : W1.cell? ⟨w.heap.size, 4, none⟩ = some (.int .i64 (f 4)) := cell_of_block zc0 4 (by simp)
  have c05 : W1.cell? ⟨w.heap.size, 5, none⟩ = some (.int .i64 (f 5)) := cell_of_block zc0 5 (by simp)
  have c06 : W1.cell? ⟨w.heap.size, 6, none⟩ = some (.int .i64 (f 6)) := cell_of_block zc0 6 (by simp)
  have c07 : W1.cell? ⟨w.heap.size, 7, none⟩ = some (.int .i64 (f 7)) := cell_of_block zc0 7 (by simp)
  have c08 : W1.cell? ⟨w.heap.size, 8, none⟩ = some (.int .i64 (f 8)) := cell_of_block zc0 8 (by simp)
  have c09 : W1.cell? ⟨w.heap.size, 9, none⟩ = some (.int .i64 (f 9)) := cell_of_block zc0 9 (by simp)
  have c010 : W1.cell? ⟨w.heap.size, 10, none⟩ = some (.int .i64 (f 10)) := cell_of_block zc0 10 (by simp)
  have c011 : W1.cell? ⟨w.heap.size, 11, none⟩ = some (.int .i64 (f 11)) := cell_of_block zc0 11 (by simp)
  have c012 : W1.cell? ⟨w.heap.size, 12, none⟩ = some (.int .i64 (f 12)) := cell_of_block zc0 12 (by simp)
  have lc0 := (Array.getElem?_eq_some_iff.1 zc0).1
  clear zc0
  have HBc := Lib.hid hBc; clear hBc
  have HWc := Lib.hid hW1; clear hW1
  have m0 := (HBc.out.cell (p := ⟨bl, 0, none⟩) hb).trans h0
  have m1 := (HBc.out.cell (p := ⟨bl, 1, none⟩) hb).trans h1
  clear h0 h1
  have lb : bl < W1.heap.size := Nat.lt_of_lt_of_le hb HBc.out.size
  have IN := Lib.hid (fun W => inside_any (f 10) (f 11) ll lh W)
  obtain ⟨r, hr⟩ : ∃ r, insB (f 10) (f 11) ll lh = r := ⟨_, rfl⟩
  rw [hr] at IN ⊢
  clear hr
  go_enter Try.func71, Try.ntmps71
  go_upto_region 1 with (fail)
  rw [HWc.out]
  go_wp2_with fail
  refine (Calls.grown (IN.out _)).mono ?_
  rintro e w1 ⟨rfl, z1, rfl⟩
  go_wp2_with fail
  go_ret
  exact ⟨rfl, HBc.out.gw z1⟩

set_option maxRecDepth 100000 in
set_option maxHeartbeats 4000000 in
theorem indexFunc_any (bl : Nat) (ll lh : Int) (al : Option Addr) (k cl : Nat) (V : Nat → Nat → Int) (w : World) (hb : bl < w.heap.size) (h0 : w.cell? ⟨bl, 0, none⟩ = some (.int .i64 ll)) (h1 : w.cell? ⟨bl, 1, none⟩ = some (.int .i64 lh)) (hL : TupsAt w al 13 k V) (hk : k ≤ 9223372036854775807) (p : Nat → Bool) (hp : ∀ i, p i = insB (V i 10) (V i 11) ll lh) :
    Calls Try.prog 70 #[.slice al k cl, .func (.func 71) #[] #[.pointer (some ⟨bl, 0, none⟩)]] w fun e w' => (∃ n : Int, e = .returned (.int .i64 n) ∧ ((∃ i : Nat, n = i ∧ i < k ∧ (∀ t, t < i → p t = true) ∧ p i = false) ∨ (n = -1 ∧ ∀ t, t < k → p t = true))) ∧ Below w.heap.size w w' := by
  have C1 := Lib.hid (fun (x : Grew) (f : Nat → Int) => first1_any bl ll lh f (gw w x) (Nat.lt_of_lt_of_le hb (below_gw w x).size) (((below_gw w x).cell (p := ⟨bl, 0, none⟩) hb).trans h0) (((below_gw w x).cell (p := ⟨bl, 1, none⟩) hb).trans h1))
  have HT := Lib.hid hL; have HP0 := Lib.hid hp
  clear h0 h1 hL hp
  go_enter Try.func70, Try.ntmps70
  go_wp2_with fail
  go_loopw [8] (fun i wr => ∃ j : Nat, j ≤ k ∧ i = .int .i64 j ∧ Hid (∀ t, t < j → p t = true) ∧ ∃ x, wr = gw w x) (fun i _ => k - (intOf i).toNat)
  case atStart => exact ⟨0, Nat.zero_le _, rfl, Lib.hid (fun t ht => absurd ht (Nat.not_lt_zero t)), ⟨#[], w.drawn⟩, by simp [gw]⟩
  case round =>
    obtain ⟨j, hj, rfl, HP, x, rfl⟩ := hrel
    by_cases hlt : j < k
    · obtain ⟨b, off, rfl, lb, hc⟩ := HT.out.resolve_left (by omega)
      have d0 : w.cell? ⟨b, off + j * 13, none⟩ = some (.int .i64 (V j 0)) := hc j hlt 0 (by omega)
      have d1 : w.cell? ⟨b, off + j * 13 + 1, none⟩ = some (.int .i64 (V j 1)) := hc j hlt 1 (by omega)
      have d2 : w.cell? ⟨b, off + j * 13 + 2, none⟩ = some (.int .i64 (V j 2)) := hc j hlt 2 (by omega)
      have d3 : w.cell? ⟨b, off + j * 13 + 3, none⟩ = some (.int .i64 (V j 3)) := hc j hlt 3 (by omega)
      have d4 : w.cell? ⟨b, off + j * 13 + 4, none⟩ = some (.int .i64 (V j 4)) := hc j hlt 4 (by omega)
      have d5 : w.cell? ⟨b, off + j * 13 + 5, none⟩ = some (.int .i64 (V j 5)) := hc j hlt 5 (by omega)
      have d6 : w.cell? ⟨b, off + j * 13 + 6, none⟩ = some (.int .i64 (V j 6)) := hc j hlt 6 (by omega)
      have d7 : w.cell? ⟨b, off + j * 13 + 7, none⟩ = some (.int .i64 (V j 7)) := hc j hlt 7 (by omega)
      have d8 : w.cell? ⟨b, off + j * 13 + 8, none⟩ = some (.int .i64 (V j 8)) := hc j hlt 8 (by omega)
      have d9 : w.cell? ⟨b, off + j * 13 + 9, none⟩ = some (.int .i64 (V j 9)) := hc j hlt 9 (by omega)
      have d10 : w.cell? ⟨b, off + j * 13 + 10, none⟩ = some (.int .i64 (V j 10)) := hc j hlt 10 (by omega)
      have d11 : w.cell? ⟨b, off + j * 13 + 11, none⟩ = some (.int .i64 (V j 11)) := hc j hlt 11 (by omega)
      have d12 : w.cell? ⟨b, off + j * 13 + 12, none⟩ = some (.int .i64 (V j 12)) := hc j hlt 12 (by omega)
      clear hc
      have CJ := C1.out x (V j)
      rw [← HP0.out j] at CJ
      cases hp : p j with
      | false =>
        rw [hp] at CJ
        have CK := Lib.hid CJ; have PP := Lib.hid hp; clear CJ hp
        go_wp2_with fail
        refine (Calls.gw_of CK.out).mono ?_
        rintro e w1 ⟨rfl, z, rfl⟩
        go_wp2_with fail
        go_ret
        exact ⟨⟨_, rfl, .inl ⟨j, rfl, hlt, HP.out, PP.out⟩⟩, below_gw w z⟩
      | true =>
        rw [hp] at CJ
        have CK := Lib.hid CJ; have PP := Lib.hid hp; clear CJ hp
        go_wp2_with fail
        refine (Calls.gw_of CK.out).mono ?_
        rintro e w1 ⟨rfl, z, rfl⟩
        go_wp2_with fail
        go_roundw
        case rel => exact ⟨j + 1, by omega, by go_num, Lib.hid (all_succ (P := fun i => p i = true) HP.out PP.out), z, rfl⟩
        case measure => simp [intOf]; omega
    · obtain rfl : j = k := by omega
      have HE := Lib.hid HP.out
      go_wp2_with fail
      go_ret
      exact ⟨⟨_, rfl, .inr ⟨rfl, HE.out⟩⟩, below_gw w x⟩

set_option maxRecDepth 100000 in
set_option maxHeartbeats 16000000 in
theorem First_any (aS : Option Addr) (k cS : Nat) (F G : Nat → Int) (y : Yst) (v : Vat) (ll lh : Int) (w : World) (hI : y.In w) (hf : y.Fits) (hS : SpansAt w aS k F G) (hk : k ≤ 9223372036854775807) :
    Calls Try.prog 37 #[y.val, v.val, .slice aS k cS, .agg #[.int .i64 ll, .int .i64 lh]] w (FirR y v k F G ll lh w) := by
  rw [show y.val = .agg #[.slice y.aT y.nT y.cT, .slice y.aR y.nR y.cR, .int .i64 y.sl, .int .i64 y.sh, .int .i64 y.gl, .int .i64 y.gh, .int .i64 y.hl, .int .i64 y.hh] from rfl, show v.val = .agg #[.int .i64 v.sl, .int .i64 v.sh, .int .i64 v.el, .int .i64 v.eh, .int .i64 v.pl, .int .i64 v.ph, .int .i64 v.gl, .int .i64 v.gh, .int .i64 v.ol, .int .i64 v.oh, .int .i64 v.tl, .int .i64 v.th, .int .i64 v.c] from rfl]
  obtain ⟨W1, hW1⟩ : ∃ W1, ((w.alloc (.cells #[.slice y.aT y.nT y.cT, .slice y.aR y.nR y.cR, .int .i64 y.sl, .int .i64 y.sh, .int .i64 y.gl, .int .i64 y.gh, .int .i64 y.hl, .int .i64 y.hh] 36)).alloc (.cells #[.int .i64 v.sl, .int .i64 v.sh, .int .i64 v.el, .int .i64 v.eh, .int .i64 v.pl, .int .i64 v.ph, .int .i64 v.gl, .int .i64 v.gh, .int .i64 v.ol, .int .i64 v.oh, .int .i64 v.tl, .int .i64 v.th, .int .i64 v.c] 38)).alloc (.cells #[.int .i64 ll, .int .i64 lh] 23) = W1 := ⟨_, rfl⟩
  have hBc : Below w.heap.size w W1 := by rw [← hW1]; exact ((below_alloc _ _).alloc (by simp) _).alloc (by simp <;> omega) _
  have zc0 : W1.heap[w.heap.size]? = some (.cells #[.slice y.aT y.nT y.cT, .slice y.aR y.nR y.cR, .int .i64 y.sl, .int .i64 y.sh, .int .i64 y.gl, .int .i64 y.gh, .int .i64 y.hl, .int .i64 y.hh] 36 (0, 0)) := by rw [← hW1]; exact alloc_keep (alloc_keep (alloc_at rfl))
  have zc1 : W1.heap[w.heap.size + 1]? = some (.cells #[.int .i64 v.sl, .int .i64 v.sh, .int .i64 v.el, .int .i64 v.eh, .int .i64 v.pl, .int .i64 v.ph, .int .i64 v.gl, .int .i64 v.gh, .int .i64 v.ol, .int .i64 v.oh, .int .i64 v.tl, .int .i64 v.th, .int .i64 v.c] 38 (0, 0)) := by rw [← hW1]; exact alloc_keep (alloc_at (by simp))
  have zc2 : W1.heap[w.heap.size + 1 + 1]? = some (.cells #[.int .i64 ll, .int .i64 lh] 23 (0, 0)) := by rw [← hW1]; exact alloc_at (by simp <;> omega)
  have c00 : W1.cell? ⟨w.heap.size, 0, none⟩ = some (.slice y.aT y.nT y.cT) := cell_of_block zc0 0 (by simp)
  have c01 : W1.cell? ⟨w.heap.size, 1, none⟩ = some (.slice y.aR y.nR y.cR) := cell_of_block zc0 1 (by simp)
  have c02 : W1.cell? ⟨w.heap.size, 2, none⟩ = some (.int .i64 y.sl) := cell_of_block zc0 2 (by simp)
  have c03 : W1.cell? ⟨w.heap.size, 3, none⟩ = some (.int .i64 y.sh) := cell_of_block zc0 3 (by simp)
  have c04 : W1.cell? ⟨w.heap.size, 4, none⟩ = some (.int .i64 y.gl) := cell_of_block zc0 4 (by simp)
  have c05 : W1.cell? ⟨w.heap.size, 5, none⟩ = some (.int .i64 y.gh) := cell_of_block zc0 5 (by simp)
  have c06 : W1.cell? ⟨w.heap.size, 6, none⟩ = some (.int .i64 y.hl) := cell_of_block zc0 6 (by simp)
  have c07 : W1.cell? ⟨w.heap.size, 7, none⟩ = some (.int .i64 y.hh) := cell_of_block zc0 7 (by simp)
  have c10 : W1.cell? ⟨w.heap.size + 1, 0, none⟩ = some (.int .i64 v.sl) := cell_of_block zc1 0 (by simp)
  have c11 : W1.cell? ⟨w.heap.size + 1, 1, none⟩ = some (.int .i64 v.sh) := cell_of_block zc1 1 (by simp)
  have c12 : W1.cell? ⟨w.heap.size + 1, 2, none⟩ = some (.int .i64 v.el) := cell_of_block zc1 2 (by simp)
  have c13 : W1.cell? ⟨w.heap.size + 1, 3, none⟩ = some (.int .i64 v.eh) := cell_of_block zc1 3 (by simp)
  have c14 : W1.cell? ⟨w.heap.size + 1, 4, none⟩ = some (.int .i64 v.pl) := cell_of_block zc1 4 (by simp)
  have c15 : W1.cell? ⟨w.heap.size + 1, 5, none⟩ = some (.int .i64 v.ph) := cell_of_block zc1 5 (by simp)
  have c16 : W1.cell? ⟨w.heap.size + 1, 6, none⟩ = some (.int .i64 v.gl) := cell_of_block zc1 6 (by simp)
  have c17 : W1.cell? ⟨w.heap.size + 1, 7, none⟩ = some (.int .i64 v.gh) := cell_of_block zc1 7 (by simp)
  have c18 : W1.cell? ⟨w.heap.size + 1, 8, none⟩ = some (.int .i64 v.ol) := cell_of_block zc1 8 (by simp)
  have c19 : W1.cell? ⟨w.heap.size + 1, 9, none⟩ = some (.int .i64 v.oh) := cell_of_block zc1 9 (by simp)
  have c110 : W1.cell? ⟨w.heap.size + 1, 10, none⟩ = some (.int .i64 v.tl) := cell_of_block zc1 10 (by simp)
  have c111 : W1.cell? ⟨w.heap.size + 1, 11, none⟩ = some (.int .i64 v.th) := cell_of_block zc1 11 (by simp)
  have c112 : W1.cell? ⟨w.heap.size + 1, 12, none⟩ = some (.int .i64 v.c) := cell_of_block zc1 12 (by simp)
  have c20 : W1.cell? ⟨w.heap.size + 1 + 1, 0, none⟩ = some (.int .i64 ll) := cell_of_block zc2 0 (by simp)
  have c21 : W1.cell? ⟨w.heap.size + 1 + 1, 1, none⟩ = some (.int .i64 lh) := cell_of_block zc2 1 (by simp)
  have lc0 := (Array.getElem?_eq_some_iff.1 zc0).1
  have lc1 := (Array.getElem?_eq_some_iff.1 zc1).1
  have lc2 := (Array.getElem?_eq_some_iff.1 zc2).1
  have Zc0 := Lib.hid zc0
  have Zc1 := Lib.hid zc1
  have Zc2 := Lib.hid zc2
  clear zc0 zc1 zc2
  have HBc := Lib.hid hBc; clear hBc
  have HWc := Lib.hid hW1; clear hW1
  have hmf : ∀ (fn : Fn) (first cap : Array Value) (w : World), (Instr.makeFunc fn first cap).run Try.prog w = .ok (.func fn first cap) w := fun _ _ _ _ => rfl
  have FER := Lib.hid (fun W (hb : Below W1.heap.size W1 W) => Ferment_any aS k cS F G y v W ((hI.below HBc.out).below hb) hf ((hS.below HBc.out).below hb) hk)
  unfold Yst.val Vat.val at FER
  clear hI hS
  by_cases hl : lh < ll
  · have HE := Lib.hid (first_lim (y := y) (v := v) (k := k) (F := F) (G := G) hl)
    go_enter Try.func37, Try.ntmps37
    go_upto_region 1 with (fail)
    rw [HWc.out]
    go_wp2_with fail
    go_ret2
    exact fir_bad HE.out rfl HBc.out
  have HL := Lib.hid hl
  go_enter Try.func37, Try.ntmps37
  go_upto_region 1 with (fail)
  rw [HWc.out]
  go_wp2_with fail
  refine (FER.out _ (Below.refl _ _)).mono ?_
  rintro e u1 ⟨vl, rfl, hown, hb⟩
  have HU1 := Lib.hid hb; clear hb
  have SBu1 := Lib.hid (HU1.out)
  have Zyu1 := Lib.hid ((SBu1.out.block _ (Array.getElem?_eq_some_iff.1 Zc0.out).1).trans Zc0.out)
  have Zvu1 := Lib.hid ((SBu1.out.block _ (Array.getElem?_eq_some_iff.1 Zc1.out).1).trans Zc1.out)
  have Zlu1 := Lib.hid ((SBu1.out.block _ (Array.getElem?_eq_some_iff.1 Zc2.out).1).trans Zc2.out)
  have HBu1 := Lib.hid (thru SBu1.out HBc.out)
  have zsu1 := SBu1.out.size
  have el0u1 : u1.cell? ⟨w.heap.size + 1 + 1, 0, none⟩ = some (.int .i64 ll) := cell_of_block Zlu1.out 0 (by simp)
  have el1u1 : u1.cell? ⟨w.heap.size + 1 + 1, 1, none⟩ = some (.int .i64 lh) := cell_of_block Zlu1.out 1 (by simp)
  have llu1 := (Array.getElem?_eq_some_iff.1 Zlu1.out).1
  clear c00 c01 c02 c03 c04 c05 c06 c07 c10 c11 c12 c13 c14 c15 c16 c17 c18 c19 c110 c111 c112 c20 c21
  by_cases hE : ferE y v k F G = 0
  rotate_left
  · have hN : ferN y v k F G = 0 := if_neg hE
    rw [hN] at hown
    obtain ⟨a5, c5, rfl⟩ := own_form hown
    have HE := Lib.hid (first_fer (ll := ll) (lh := lh) (by have := HL.out; omega) hE)
    clear hown hN
    obtain ⟨E, hEE⟩ : ∃ E, ferE y v k F G = E := ⟨_, rfl⟩
    rw [hEE] at hE HE ⊢
    have ne : (E != 0) = true := by simpa using hE
    clear hE hEE
    go_wp2_with fail
    go_ret2
    exact fir_bad HE.out rfl HBu1.out
  have hN : ferN y v k F G = k := if_pos hE
  rw [hN] at hown
  rw [hE]
  obtain ⟨al, cl, rfl, hL⟩ := tups_of_own hown
  have HH := Lib.hid (fun i (hi : i < k) h1 h2 => first_hit (ll := ll) (lh := lh) (by have := HL.out; omega) hE (i := i) hi h1 h2); have HN := Lib.hid (first_none (ll := ll) (lh := lh) (by have := HL.out; omega) hE)
  have IX := Lib.hid (indexFunc_any (w.heap.size + 1 + 1) ll lh al k cl _ u1 llu1 el0u1 el1u1 hL hk (inB' y v F G ll lh) (fun i => rfl))
  clear hown hL hN hE
  go_wp2_with fail
  refine IX.out.mono ?_
  rintro e u2 ⟨⟨n, rfl, hn⟩, hb2⟩
  have HB2 := Lib.hid (thru hb2 HBu1.out); clear hb2 IX
  rcases hn with ⟨i, rfl, hi, h1, h2⟩ | ⟨rfl, h1⟩
  · have HE := Lib.hid (HH.out i hi h1 h2); clear h1 h2 HH HN
    go_wp2_with fail
    go_ret2
    exact fir_bad HE.out rfl HB2.out
  · have HE := Lib.hid (HN.out h1); clear h1 HH HN
    go_wp2_with fail
    go_ret2
    exact fir_bad HE.out rfl HB2.out
end Go.Proofs.Ytecbacbecopbeaa
