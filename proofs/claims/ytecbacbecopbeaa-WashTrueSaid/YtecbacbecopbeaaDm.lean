/- WashTrue walked: it returns true. No conditions beyond each theorem's own. -/
import Derived.Test.YtecbacbecopbeaaBz
import Derived.Test.YtecbacbecopbeaaBy
import Derived.Test.YtecbacbecopbeaaBx
set_option linter.unusedVariables false
set_option linter.unusedSimpArgs false
set_option linter.unusedSectionVars false
set_option linter.constructorNameAsVariable false
namespace Go.Proofs.Ytecbacbecopbeaa
open Go.RowKit

attribute [local go_sem] gw_cell gw_frozen gw_size

/-- a call that leaves what there was, in a world of the class -/
theorem calls_keepW {P : Program} {f : FuncId} {args : Array Value} {w0 : World} {x : Grew} {v : Value} (h : Calls P f args (gw w0 x) fun e w' => e = .returned v ∧ Below (gw w0 x).heap.size (gw w0 x) w') :
    Calls P f args (gw w0 x) fun e w' => ∃ x', e = .returned v ∧ w' = gw w0 x' ∧ Below (gw w0 x).heap.size (gw w0 x) (gw w0 x') := by
  refine h.mono ?_
  rintro e w' ⟨he, hb⟩
  obtain ⟨x', rfl⟩ := gw_of_below (thru hb (below_gw w0 x))
  exact ⟨x', he, rfl, hb⟩
theorem next_gw {w0 : World} {g gb nB cB : Nat} {aB : Option Addr} {U : Nat → Int} (hU : NumsAt .u32 w0 aB nB U) (hu : ∀ i, i < nB → 0 ≤ U i ∧ U i ≤ 4294967295) (hn : 0 < nB) (hm : nB ≤ 9223372036854775807) (N : Nat) (x : Grew) (hN : N ≤ 1000000) (h : KW w0 g gb N aB nB cB (gw w0 x)) :
    Calls Try.prog 22 #[.pointer (some ⟨g, 0, none⟩), .pointer (some ⟨gb, 0, none⟩)] (gw w0 x) fun e w' => ∃ b x', e = .returned (.int .u32 b) ∧ w' = gw w0 x' ∧ (0 ≤ b ∧ b ≤ 4294967295) ∧ KW w0 g gb (N + 1) aB nB cB (gw w0 x') ∧ (gw w0 x).grownBy (gw w0 x') (some g) := by
  refine (next_any hU hu hn hm hN _ h).mono ?_
  rintro e w' ⟨b, he, hb, hK, hg⟩
  obtain ⟨x', rfl⟩ := gw_of_below hK.low
  exact ⟨b, x', he, rfl, hb, hK, hg⟩
/-- share, either way -/
theorem share_gw (n lo hi b : Int) (w0 : World) (x : Grew) (h0 : 0 ≤ n ∧ n ≤ 4294967296) (h1 : 0 ≤ lo ∧ lo ≤ 1000) (h2 : 0 ≤ hi ∧ hi ≤ 1000) (h3 : 0 ≤ b ∧ b ≤ 4294967295) :
    Calls Try.prog 24 #[.int .i64 n, .agg #[.int .i64 lo, .int .i64 hi], .int .u32 b] (gw w0 x) fun e w' => ∃ r t x', e = .returned (.tuple #[.int .i64 r, .bool t]) ∧ w' = gw w0 x' ∧ (0 ≤ r ∧ r ≤ n) ∧ (t = true → Share n lo hi r) ∧ Below (gw w0 x).heap.size (gw w0 x) (gw w0 x') := by
  have m2 : 0 ≤ n * hi := Int.mul_nonneg h0.1 h2.1
  have m3 : n * hi ≤ n * 1000 := Int.mul_le_mul_of_nonneg_left h2.2 h0.1
  have m0 : 0 ≤ n * lo := Int.mul_nonneg h0.1 h1.1
  by_cases le : (n * lo + 999) / 1000 ≤ n * hi / 1000
  · refine (calls_keepW (share_ok n lo hi b _ h0 h1 h2 h3 le)).mono ?_
    rintro e w' ⟨x', he, rfl, hb⟩
    have hr := innerI_range (b := b) le
    exact ⟨_, _, x', he, rfl, by omega, fun _ => hr, hb⟩
  · refine (calls_keepW (share_no n lo hi b _ h0 h1 h2 le)).mono ?_
    rintro e w' ⟨x', he, rfl, hb⟩
    exact ⟨_, _, x', he, rfl, by omega, fun h => (by cases h), hb⟩
theorem has_true {lo hi x : Int} (w : World) (h : lo ≤ x ∧ x ≤ hi) : Calls Try.prog 26 #[.agg #[.int .i64 lo, .int .i64 hi], .int .i64 x] w fun e w' => e = .returned (.bool true) ∧ Below w.heap.size w w' := by
  have := has_any lo hi x w
  rw [decide_eq_true h.1, decide_eq_true h.2] at this
  exact this
theorem vs_c (y : Yst) (v : Vat) (F G : Nat → Int) : ∀ j, (y.vs v F G j).c = v.c
  | 0 => rfl
  | j + 1 => vs_c y v F G j

theorem tru_bounds {v : Vat} {s e p g t : Int} (hv : vatB v = true) (h : Tru v s e p g t) : (0 ≤ s ∧ s ≤ 1073741824) ∧ (0 ≤ e ∧ e ≤ 1073741824) ∧ (0 ≤ p ∧ p ≤ 1073741824) ∧ (0 ≤ g ∧ g ≤ 1073741824) ∧ (-50000 ≤ t ∧ t ≤ 150000) := by
  obtain ⟨⟨v1, v2, v3⟩, ⟨v4, v5, v6⟩, ⟨v7, v8, v9⟩, ⟨v10, v11, v12⟩, -, ⟨v13, v14, v15⟩, v16, v17⟩ := vatB_t hv
  obtain ⟨⟨s0, s1⟩, ⟨e0, e1⟩, ⟨p0, p1⟩, ⟨g0, g1⟩, ⟨t0, t1⟩⟩ := h
  omega
theorem heat_range {r hl hh c : Int} (h0 : 0 ≤ r ∧ r ≤ 1073741824) (h1 : 0 ≤ hl ∧ hl ≤ hh ∧ hh ≤ 10000) (hc : 1 ≤ c ∧ c ≤ 1099511627776) :
    (0 ≤ r * hl ∧ r * hl ≤ 10737418240000) ∧ (0 ≤ r * hh ∧ r * hh ≤ 10737418240000) ∧ ((r * hl * 1000 + c - 1).tdiv c = (r * hl * 1000 + c - 1) / c) ∧ ((r * hh * 1000).tdiv c = r * hh * 1000 / c) ∧ (0 ≤ (r * hl * 1000 + c - 1) / c ∧ (r * hl * 1000 + c - 1) / c ≤ 20000000000000000) ∧ (0 ≤ r * hh * 1000 / c ∧ r * hh * 1000 / c ≤ 20000000000000000) := by
  have a0 : 0 ≤ r * hl := Int.mul_nonneg h0.1 h1.1
  have a1 : r * hl ≤ 1073741824 * 10000 := Int.mul_le_mul h0.2 (by omega) h1.1 (by omega)
  have b0 : 0 ≤ r * hh := Int.mul_nonneg h0.1 (by omega)
  have b1 : r * hh ≤ 1073741824 * 10000 := Int.mul_le_mul h0.2 h1.2.2 (by omega) (by omega)
  have d0 := Int.ediv_nonneg (show 0 ≤ r * hl * 1000 + c - 1 by omega) (show 0 ≤ c by omega)
  have d1 := Int.ediv_le_self c (show 0 ≤ r * hl * 1000 + c - 1 by omega)
  have d2 := Int.ediv_nonneg (show 0 ≤ r * hh * 1000 by omega) (show 0 ≤ c by omega)
  have d3 := Int.ediv_le_self c (show 0 ≤ r * hh * 1000 by omega)
  exact ⟨by omega, by omega, Int.tdiv_eq_ediv_of_nonneg (by omega), Int.tdiv_eq_ediv_of_nonneg (by omega), by omega, by omega⟩
theorem true_next {y : Yst} {v : Vat} {F G : Nat → Int} {k i : Nat} (hB : ystB y = true) (hV : ∀ j, j ≤ k → vatB (y.vs v F G j) = true) (hi : i < k) {s e p g t eat made out warm cool : Int} (h : Tru (y.vs v F G i) s e p g t)
    (h1 : Share s (y.rl t t) (y.rh t t) eat) (h2 : Share eat y.sl y.sh made) (h3 : Share eat y.gl y.gh out) (h4 : (eat * y.hl * 1000 + v.c - 1) / v.c ≤ warm ∧ warm ≤ eat * y.hh * 1000 / v.c) (h5 : F i ≤ cool ∧ cool ≤ G i) :
    Tru (y.vs v F G (i + 1)) (s - eat) (e + eat) (p + made) (g + out) (t + (warm - cool)) ∧ ((y.vs v F G (i + 1)).ol ≤ out ∧ out ≤ (y.vs v F G (i + 1)).oh) := by
  have hc := vs_c y v F G i
  exact true_step hB (hV i (by omega)) h h1 h2 h3 (by rw [hc]; exact h4) h5
/-- a grown world in which a box holds a span -/
structure GrewC (W : World) (cb : Nat) (f h : Int) where
  g : Grew
  c0 : (gw W g).cell? ⟨cb, 0, none⟩ = some (.int .i64 f)
  c1 : (gw W g).cell? ⟨cb, 1, none⟩ = some (.int .i64 h)
theorem grewC_0 {W : World} {cb : Nat} {f g : Int} (x : GrewC W cb f g) : (gw W x.g).cell? ⟨cb, 0, none⟩ = some (.int .i64 f) := x.c0
theorem grewC_1 {W : World} {cb : Nat} {f g : Int} (x : GrewC W cb f g) : (gw W x.g).cell? ⟨cb, 1, none⟩ = some (.int .i64 g) := x.c1
attribute [local go_sem] grewC_0 grewC_1

set_option maxRecDepth 100000 in
set_option maxHeartbeats 16000000 in
theorem true_any (y : Yst) (v : Vat) (aS : Option Addr) (k cS : Nat) (F G : Nat → Int) (aB : Option Addr) (nB cB : Nat) (U : Nat → Int) (w : World) (hI : y.In w) (hf : y.Fits) (hS : SpansAt w aS k F G) (hk : k ≤ 9223372036854775807)
    (hU : NumsAt .u32 w aB nB U) (hu : ∀ i, i < nB → 0 ≤ U i ∧ U i ≤ 4294967295) (hm : nB ≤ 9223372036854775807) :
    Calls Try.prog 4 #[y.val, v.val, .slice aS k cS, .slice aB nB cB] w (True1 w) := by
  unfold Yst.val Vat.val
  obtain ⟨W1, hW1⟩ : ∃ W1, ((w.alloc (.cells #[.slice y.aT y.nT y.cT, .slice y.aR y.nR y.cR, .int .i64 y.sl, .int .i64 y.sh, .int .i64 y.gl, .int .i64 y.gh, .int .i64 y.hl, .int .i64 y.hh] 36)).alloc (.cells #[.int .i64 v.sl, .int .i64 v.sh, .int .i64 v.el, .int .i64 v.eh, .int .i64 v.pl, .int .i64 v.ph, .int .i64 v.gl, .int .i64 v.gh, .int .i64 v.ol, .int .i64 v.oh, .int .i64 v.tl, .int .i64 v.th, .int .i64 v.c] 38)).alloc (.cells #[.slice aB nB cB] 39) = W1 := ⟨_, rfl⟩
  have hBc : Below w.heap.size w W1 := by rw [← hW1]; exact ((below_alloc _ _).alloc (by simp) _).alloc (by simp <;> omega) _
  have zc0 : W1.heap[w.heap.size]? = some (.cells #[.slice y.aT y.nT y.cT, .slice y.aR y.nR y.cR, .int .i64 y.sl, .int .i64 y.sh, .int .i64 y.gl, .int .i64 y.gh, .int .i64 y.hl, .int .i64 y.hh] 36 (0, 0)) := by rw [← hW1]; exact alloc_keep (alloc_keep (alloc_at rfl))
  have zc1 : W1.heap[w.heap.size + 1]? = some (.cells #[.int .i64 v.sl, .int .i64 v.sh, .int .i64 v.el, .int .i64 v.eh, .int .i64 v.pl, .int .i64 v.ph, .int .i64 v.gl, .int .i64 v.gh, .int .i64 v.ol, .int .i64 v.oh, .int .i64 v.tl, .int .i64 v.th, .int .i64 v.c] 38 (0, 0)) := by rw [← hW1]; exact alloc_keep (alloc_at (by simp))
  have zc2 : W1.heap[w.heap.size + 1 + 1]? = some (.cells #[.slice aB nB cB] 39 (0, 0)) := by rw [← hW1]; exact alloc_at (by simp <;> omega)
  have c00 : W1.cell? ⟨w.heap.size, 0, none⟩ = some (.slice y.aT y.nT y.cT) := cell_of_block zc0 0 (by simp)
  have c01 : W1.cell? ⟨w.heap.size, 1, none⟩ = some (.slice y.aR y.nR y.cR) := cell_of_block zc0 1 (by simp)
  have c02 : W1.cell? ⟨w.heap.size, 2, none⟩ = some (.int .i64 y.sl) := cell_of_block zc0 2 (by simp)
  have c03 : W1.cell? ⟨w.heap.size, 3, none⟩ = some (.int .i64 y.sh) := cell_of_block zc0 3 (by simp)
  have c04 : W1.cell? ⟨w.heap.size, 4, none⟩ = some (.int .i64 y.gl) := cell_of_block zc0 4 (by simp)
  have c05 : W1.cell? ⟨w.heap.size, 5, none⟩ = some (.int .i64 y.gh) := cell_of_block zc0 5 (by simp)
  have c06 : W1.cell? ⟨w.heap.size, 6, none⟩ = some (.int .i64 y.hl) := cell_of_block zc0 6 (by simp)
  have c07 : W1.cell? ⟨w.heap.size, 7, none⟩ = some (.int .i64 y.hh) := cell_of_block zc0 7 (by simp)
  have c10 : W1.cell? ⟨w.heap.size + 1, 0, none⟩ = some (.int .i64 v.sl) := cell_of_block zc1 0 (by simp)
  have c11 : W1.cell? ⟨w.heap.size + 1, 1, none⟩ = some (.int .i64 v.sh) := cell_of_block zc1 1 (by simp)
  have c12 : W1.cell? ⟨w.heap.size + 1, 2, none⟩ = some (.int .i64 v.el) := cell_of_block zc1 2 (by simp)
  have c13 : W1.cell? ⟨w.heap.size + 1, 3, none⟩ = some (.int .i64 v.eh) := cell_of_block zc1 3 (by simp)
  have c14 : W1.cell? ⟨w.heap.size + 1, 4, none⟩ = some (.int .i64 v.pl) := cell_of_block zc1 4 (by simp)
  have c15 : W1.cell? ⟨w.heap.size + 1, 5, none⟩ = some (.int .i64 v.ph) := cell_of_block zc1 5 (by simp)
  have c16 : W1.cell? ⟨w.heap.size + 1, 6, none⟩ = some (.int .i64 v.gl) := cell_of_block zc1 6 (by simp)
  have c17 : W1.cell? ⟨w.heap.size + 1, 7, none⟩ = some (.int .i64 v.gh) := cell_of_block zc1 7 (by simp)
  have c18 : W1.cell? ⟨w.heap.size + 1, 8, none⟩ = some (.int .i64 v.ol) := cell_of_block zc1 8 (by simp)
  have c19 : W1.cell? ⟨w.heap.size + 1, 9, none⟩ = some (.int .i64 v.oh) := cell_of_block zc1 9 (by simp)
  have c110 : W1.cell? ⟨w.heap.size + 1, 10, none⟩ = some (.int .i64 v.tl) := cell_of_block zc1 10 (by simp)
  have c111 : W1.cell? ⟨w.heap.size + 1, 11, none⟩ = some (.int .i64 v.th) := cell_of_block zc1 11 (by simp)
  have c112 : W1.cell? ⟨w.heap.size + 1, 12, none⟩ = some (.int .i64 v.c) := cell_of_block zc1 12 (by simp)
  have c20 : W1.cell? ⟨w.heap.size + 1 + 1, 0, none⟩ = some (.slice aB nB cB) := cell_of_block zc2 0 (by simp)
  have lc0 := (Array.getElem?_eq_some_iff.1 zc0).1
  have lc1 := (Array.getElem?_eq_some_iff.1 zc1).1
  have lc2 := (Array.getElem?_eq_some_iff.1 zc2).1
  have Zc0 := Lib.hid zc0
  have Zc1 := Lib.hid zc1
  have Zc2 := Lib.hid zc2
  clear zc0 zc1 zc2
  have HBc := Lib.hid hBc; clear hBc
  have HWc := Lib.hid hW1; clear hW1
  have FER := Lib.hid (fun W (hb : Below W1.heap.size W1 W) => Ferment_any aS k cS F G y v W ((hI.below HBc.out).below hb) hf ((hS.below HBc.out).below hb) hk)
  unfold Yst.val Vat.val at FER
  have YB := Lib.hid (fun W (hb : Below W1.heap.size W1 W) (h : ystB y = true) => rYeast_b y W ((hI.below HBc.out).below hb) hf h)
  unfold Yst.val at YB
  have VB := Lib.hid (fun W (h : vatB v = true) => rVat_b v W h)
  unfold Vat.val at VB
  have RA := Lib.hid (fun W (hb : Below W1.heap.size W1 W) (t : Int) (h : ystB y = true) => rRate_any y t t W ((hI.below HBc.out).below hb) hf h (Int.le_refl t))
  unfold Yst.val at RA
  have HS := Lib.hid (hS.below HBc.out); have HU := Lib.hid (hU.below HBc.out); have HV := Lib.hid hu; clear hI hS hU hu
  by_cases n1 : 20 < y.nT
  · skip
    go_enter Try.func4, Try.ntmps4
    go_upto_region 1 with (fail)
    rw [HWc.out]
    go_wp2_with fail
    refine (Calls.grown (alive_any _)).mono ?_
    rintro e w1 ⟨rfl, z1, rfl⟩
    go_wp2_with fail
    go_ret
    exact ⟨rfl, HBc.out.gw z1⟩
  by_cases n2 : 21 < y.nR
  · skip
    go_enter Try.func4, Try.ntmps4
    go_upto_region 1 with (fail)
    rw [HWc.out]
    go_wp2_with fail
    refine (Calls.grown (alive_any _)).mono ?_
    rintro e w1 ⟨rfl, z1, rfl⟩
    go_wp2_with fail
    go_ret
    exact ⟨rfl, HBc.out.gw z1⟩
  by_cases n3 : 40 < k
  · skip
    go_enter Try.func4, Try.ntmps4
    go_upto_region 1 with (fail)
    rw [HWc.out]
    go_wp2_with fail
    refine (Calls.grown (alive_any _)).mono ?_
    rintro e w1 ⟨rfl, z1, rfl⟩
    go_wp2_with fail
    go_ret
    exact ⟨rfl, HBc.out.gw z1⟩
  by_cases n4 : nB = 0
  · subst n4
    go_enter Try.func4, Try.ntmps4
    go_upto_region 1 with (fail)
    rw [HWc.out]
    go_wp2_with fail
    refine (Calls.grown (alive_any _)).mono ?_
    rintro e w1 ⟨rfl, z1, rfl⟩
    go_wp2_with fail
    go_ret
    exact ⟨rfl, HBc.out.gw z1⟩
  have n5 : ((nB : Int) == 0) = false := by simp; omega
  go_enter Try.func4, Try.ntmps4
  go_upto_region 1 with (fail)
  rw [HWc.out]
  go_wp2_with fail
  refine (FER.out _ (Below.refl _ _)).mono ?_
  rintro e u1 ⟨vl, rfl, hown, hb⟩
  have HU1 := Lib.hid hb; clear hb
  clear c00 c01 c02 c03 c04 c05 c06 c07 c10 c11 c12 c13 c14 c15 c16 c17 c18 c19 c110 c111 c112 c20
  have SBu1 := Lib.hid (HU1.out)
  have Zyu1 := Lib.hid ((SBu1.out.block _ (Array.getElem?_eq_some_iff.1 Zc0.out).1).trans Zc0.out)
  have Zvu1 := Lib.hid ((SBu1.out.block _ (Array.getElem?_eq_some_iff.1 Zc1.out).1).trans Zc1.out)
  have Zbu1 := Lib.hid ((SBu1.out.block _ (Array.getElem?_eq_some_iff.1 Zc2.out).1).trans Zc2.out)
  have HBu1 := Lib.hid (thru SBu1.out HBc.out)
  have zsu1 := SBu1.out.size
  have ey0u1 : u1.cell? ⟨w.heap.size, 0, none⟩ = some (.slice y.aT y.nT y.cT) := cell_of_block Zyu1.out 0 (by simp)
  have ey1u1 : u1.cell? ⟨w.heap.size, 1, none⟩ = some (.slice y.aR y.nR y.cR) := cell_of_block Zyu1.out 1 (by simp)
  have ey2u1 : u1.cell? ⟨w.heap.size, 2, none⟩ = some (.int .i64 y.sl) := cell_of_block Zyu1.out 2 (by simp)
  have ey3u1 : u1.cell? ⟨w.heap.size, 3, none⟩ = some (.int .i64 y.sh) := cell_of_block Zyu1.out 3 (by simp)
  have ey4u1 : u1.cell? ⟨w.heap.size, 4, none⟩ = some (.int .i64 y.gl) := cell_of_block Zyu1.out 4 (by simp)
  have ey5u1 : u1.cell? ⟨w.heap.size, 5, none⟩ = some (.int .i64 y.gh) := cell_of_block Zyu1.out 5 (by simp)
  have ey6u1 : u1.cell? ⟨w.heap.size, 6, none⟩ = some (.int .i64 y.hl) := cell_of_block Zyu1.out 6 (by simp)
  have ey7u1 : u1.cell? ⟨w.heap.size, 7, none⟩ = some (.int .i64 y.hh) := cell_of_block Zyu1.out 7 (by simp)
  have lyu1 := (Array.getElem?_eq_some_iff.1 Zyu1.out).1
  have ev0u1 : u1.cell? ⟨w.heap.size + 1, 0, none⟩ = some (.int .i64 v.sl) := cell_of_block Zvu1.out 0 (by simp)
  have ev1u1 : u1.cell? ⟨w.heap.size + 1, 1, none⟩ = some (.int .i64 v.sh) := cell_of_block Zvu1.out 1 (by simp)
  have ev2u1 : u1.cell? ⟨w.heap.size + 1, 2, none⟩ = some (.int .i64 v.el) := cell_of_block Zvu1.out 2 (by simp)
  have ev3u1 : u1.cell? ⟨w.heap.size + 1, 3, none⟩ = some (.int .i64 v.eh) := cell_of_block Zvu1.out 3 (by simp)
  have ev4u1 : u1.cell? ⟨w.heap.size + 1, 4, none⟩ = some (.int .i64 v.pl) := cell_of_block Zvu1.out 4 (by simp)
  have ev5u1 : u1.cell? ⟨w.heap.size + 1, 5, none⟩ = some (.int .i64 v.ph) := cell_of_block Zvu1.out 5 (by simp)
  have ev6u1 : u1.cell? ⟨w.heap.size + 1, 6, none⟩ = some (.int .i64 v.gl) := cell_of_block Zvu1.out 6 (by simp)
  have ev7u1 : u1.cell? ⟨w.heap.size + 1, 7, none⟩ = some (.int .i64 v.gh) := cell_of_block Zvu1.out 7 (by simp)
  have ev8u1 : u1.cell? ⟨w.heap.size + 1, 8, none⟩ = some (.int .i64 v.ol) := cell_of_block Zvu1.out 8 (by simp)
  have ev9u1 : u1.cell? ⟨w.heap.size + 1, 9, none⟩ = some (.int .i64 v.oh) := cell_of_block Zvu1.out 9 (by simp)
  have ev10u1 : u1.cell? ⟨w.heap.size + 1, 10, none⟩ = some (.int .i64 v.tl) := cell_of_block Zvu1.out 10 (by simp)
  have ev11u1 : u1.cell? ⟨w.heap.size + 1, 11, none⟩ = some (.int .i64 v.th) := cell_of_block Zvu1.out 11 (by simp)
  have ev12u1 : u1.cell? ⟨w.heap.size + 1, 12, none⟩ = some (.int .i64 v.c) := cell_of_block Zvu1.out 12 (by simp)
  have lvu1 := (Array.getElem?_eq_some_iff.1 Zvu1.out).1
  have eb0u1 : u1.cell? ⟨w.heap.size + 1 + 1, 0, none⟩ = some (.slice aB nB cB) := cell_of_block Zbu1.out 0 (by simp)
  have lbu1 := (Array.getElem?_eq_some_iff.1 Zbu1.out).1
  by_cases hE : ferE y v k F G = 0
  rotate_left
  · have hN : ferN y v k F G = 0 := if_neg hE
    rw [hN] at hown
    obtain ⟨a5, c5, rfl⟩ := own_form hown
    clear hown hN
    obtain ⟨E, hEE⟩ : ∃ E, ferE y v k F G = E := ⟨_, rfl⟩
    rw [hEE] at hE ⊢
    have ne : (E != 0) = true := by simpa using hE
    clear hE hEE
    go_wp2_with fail
    refine (Calls.grown (alive_any _)).mono ?_
    rintro e w1 ⟨rfl, z1, rfl⟩
    go_wp2_with fail
    go_ret
    exact ⟨rfl, HBu1.out.gw z1⟩
  have hN : ferN y v k F G = k := if_pos hE
  rw [hN] at hown
  rw [hE]
  obtain ⟨q1, hy, hv, hC, hV⟩ := ferE_zero hE
  obtain ⟨al, cl, rfl, hL⟩ := tups_of_own hown
  have HL := Lib.hid hL; have HVS := Lib.hid hV; have HY := Lib.hid hy; have HVV := Lib.hid hv; have HCC := Lib.hid hC; clear hown hL hN hE hV hy hv hC q1
  go_wp2_with fail
  refine (Calls.grown (YB.out _ SBu1.out HY.out)).mono ?_
  rintro e w1 ⟨rfl, z1, rfl⟩
  go_wp2_with fail
  refine (Calls.gw_of (VB.out _ HVV.out)).mono ?_
  rintro e w1 ⟨rfl, z2, rfl⟩
  go_wp2_with fail
  go_upto_region 8 with (fail)
  obtain ⟨W2, hW2⟩ : ∃ W2, gw u1 z2 = W2 := ⟨_, rfl⟩
  have hbW2 : Below u1.heap.size u1 W2 := by rw [← hW2]; exact below_gw u1 z2
  have ZyW2 := Lib.hid ((hbW2.block _ (Array.getElem?_eq_some_iff.1 Zyu1.out).1).trans Zyu1.out)
  have ZvW2 := Lib.hid ((hbW2.block _ (Array.getElem?_eq_some_iff.1 Zvu1.out).1).trans Zvu1.out)
  have ZbW2 := Lib.hid ((hbW2.block _ (Array.getElem?_eq_some_iff.1 Zbu1.out).1).trans Zbu1.out)
  have HBW2 := Lib.hid (thru hbW2 HBu1.out)
  have SBW2 := Lib.hid hbW2; clear hbW2
  have HWW2 := Lib.hid hW2; clear hW2
  rw [HWW2.out]
  clear ey0u1 ey1u1 ey2u1 ey3u1 ey4u1 ey5u1 ey6u1 ey7u1 ev0u1 ev1u1 ev2u1 ev3u1 ev4u1 ev5u1 ev6u1 ev7u1 ev8u1 ev9u1 ev10u1 ev11u1 ev12u1 eb0u1
  have zsW2 := SBW2.out.size
  have ey0W2 : W2.cell? ⟨w.heap.size, 0, none⟩ = some (.slice y.aT y.nT y.cT) := cell_of_block ZyW2.out 0 (by simp)
  have ey1W2 : W2.cell? ⟨w.heap.size, 1, none⟩ = some (.slice y.aR y.nR y.cR) := cell_of_block ZyW2.out 1 (by simp)
  have ey2W2 : W2.cell? ⟨w.heap.size, 2, none⟩ = some (.int .i64 y.sl) := cell_of_block ZyW2.out 2 (by simp)
  have ey3W2 : W2.cell? ⟨w.heap.size, 3, none⟩ = some (.int .i64 y.sh) := cell_of_block ZyW2.out 3 (by simp)
  have ey4W2 : W2.cell? ⟨w.heap.size, 4, none⟩ = some (.int .i64 y.gl) := cell_of_block ZyW2.out 4 (by simp)
  have ey5W2 : W2.cell? ⟨w.heap.size, 5, none⟩ = some (.int .i64 y.gh) := cell_of_block ZyW2.out 5 (by simp)
  have ey6W2 : W2.cell? ⟨w.heap.size, 6, none⟩ = some (.int .i64 y.hl) := cell_of_block ZyW2.out 6 (by simp)
  have ey7W2 : W2.cell? ⟨w.heap.size, 7, none⟩ = some (.int .i64 y.hh) := cell_of_block ZyW2.out 7 (by simp)
  have lyW2 := (Array.getElem?_eq_some_iff.1 ZyW2.out).1
  have ev0W2 : W2.cell? ⟨w.heap.size + 1, 0, none⟩ = some (.int .i64 v.sl) := cell_of_block ZvW2.out 0 (by simp)
  have ev1W2 : W2.cell? ⟨w.heap.size + 1, 1, none⟩ = some (.int .i64 v.sh) := cell_of_block ZvW2.out 1 (by simp)
  have ev2W2 : W2.cell? ⟨w.heap.size + 1, 2, none⟩ = some (.int .i64 v.el) := cell_of_block ZvW2.out 2 (by simp)
  have ev3W2 : W2.cell? ⟨w.heap.size + 1, 3, none⟩ = some (.int .i64 v.eh) := cell_of_block ZvW2.out 3 (by simp)
  have ev4W2 : W2.cell? ⟨w.heap.size + 1, 4, none⟩ = some (.int .i64 v.pl) := cell_of_block ZvW2.out 4 (by simp)
  have ev5W2 : W2.cell? ⟨w.heap.size + 1, 5, none⟩ = some (.int .i64 v.ph) := cell_of_block ZvW2.out 5 (by simp)
  have ev6W2 : W2.cell? ⟨w.heap.size + 1, 6, none⟩ = some (.int .i64 v.gl) := cell_of_block ZvW2.out 6 (by simp)
  have ev7W2 : W2.cell? ⟨w.heap.size + 1, 7, none⟩ = some (.int .i64 v.gh) := cell_of_block ZvW2.out 7 (by simp)
  have ev8W2 : W2.cell? ⟨w.heap.size + 1, 8, none⟩ = some (.int .i64 v.ol) := cell_of_block ZvW2.out 8 (by simp)
  have ev9W2 : W2.cell? ⟨w.heap.size + 1, 9, none⟩ = some (.int .i64 v.oh) := cell_of_block ZvW2.out 9 (by simp)
  have ev10W2 : W2.cell? ⟨w.heap.size + 1, 10, none⟩ = some (.int .i64 v.tl) := cell_of_block ZvW2.out 10 (by simp)
  have ev11W2 : W2.cell? ⟨w.heap.size + 1, 11, none⟩ = some (.int .i64 v.th) := cell_of_block ZvW2.out 11 (by simp)
  have ev12W2 : W2.cell? ⟨w.heap.size + 1, 12, none⟩ = some (.int .i64 v.c) := cell_of_block ZvW2.out 12 (by simp)
  have lvW2 := (Array.getElem?_eq_some_iff.1 ZvW2.out).1
  have eb0W2 : W2.cell? ⟨w.heap.size + 1 + 1, 0, none⟩ = some (.slice aB nB cB) := cell_of_block ZbW2.out 0 (by simp)
  have lbW2 := (Array.getElem?_eq_some_iff.1 ZbW2.out).1
  go_upto_region 10 with (fail)
  have zg : W2.heap.size = u1.heap.size + z2.bs.size := by rw [← HWW2.out]; simp [gw_size]
  have hKW : KW W2 (u1.heap.size + z2.bs.size) (w.heap.size + 1 + 1) 0 aB nB cB (W2.alloc (.cells #[.int .i64 0] 3)) := ⟨below_alloc _ _, ⟨0, Nat.le_refl _, alloc_at zg⟩, alloc_keep ZbW2.out, by omega, by omega⟩
  have ZG := Lib.hid zg; clear zg
  obtain ⟨x0, hx0⟩ := gw_of_below (below_alloc W2 (.cells #[.int .i64 0] 3))
  rw [hx0] at hKW
  have K0 := Lib.hid hKW; clear hKW
  rw [hx0]
  clear hx0
  have SW3 := Lib.hid (SBW2.out)
  have HU3 := Lib.hid (HU.out.below (thru SBW2.out SBu1.out))
  have NX := Lib.hid (next_gw (cB := cB) (g := u1.heap.size + z2.bs.size) (gb := w.heap.size + 1 + 1) HU3.out HV.out (by omega) hm)
  refine wp_region_steps (fun w' => ∃ x, w' = gw W2 x) [([0, 1, 2, 5, 6, 7, 10, 11, 12, 15, 16, 17, 20, 21, 22], 3), ([], 4), ([], 8), ([], 9), ([], 13), ([], 14), ([], 18), ([], 19), ([], 23), ([], 24)] [25, 26, 27, 28, 29] [] (by kernel_rfl) (by kernel_rfl) ?_
  rintro _ ⟨qq, rfl⟩
  obtain ⟨x1, hx1⟩ := gw_gw W2 x0 qq
  have hb1 := below_gw (gw W2 x0) qq
  rw [hx1] at hb1 ⊢
  clear hx1 qq
  have K1 := Lib.hid (K0.out.below hb1)
  clear hb1
  refine ⟨⟨_, rfl⟩, ?_⟩
  obtain ⟨⟨v1, v2, v3⟩, ⟨v4, v5, v6⟩, ⟨v7, v8, v9⟩, ⟨v10, v11, v12⟩, -, ⟨v13, v14, v15⟩, v16, v17⟩ := vatB_t HVV.out
  refine wpSeg_cons ?_
  simp only [pickL, List.getElem?_cons_zero, List.getElem?_cons_succ]
  repeat (go_big_quiet_step (fail))
  refine wpQuiet_nil ?_
  go_wp2_with fail
  rename_i KK hKK
  refine (NX.out (0) x1 (by omega) K1.out).mono ?_
  rintro e w1 ⟨bs, x2, rfl, rfl, hbs, hk2, hg2⟩
  have K2 := Lib.hid hk2; clear hk2
  clear hg2
  refine hKK _ _ (contQ_nil ⟨⟨_, rfl⟩, ?_⟩)
  clear hKK KK
  refine wpSeg_cons ?_
  simp only [pickL, List.getElem?_cons_zero, List.getElem?_cons_succ]
  repeat (go_big_quiet_step (fail))
  refine wpQuiet_nil ?_
  go_wp2_with fail
  rename_i KK hKK
  have rs := innerI_range (b := bs) (show v.sl ≤ v.sh by omega)
  have IN := fun w => inner_any v.sl v.sh bs w (by omega) (by omega) (by omega) hbs.1 hbs.2
  obtain ⟨S0, hnS0⟩ : ∃ z, innerI v.sl v.sh bs = z := ⟨_, rfl⟩
  simp only [hnS0] at IN rs
  clear hnS0
  have IN2 := Lib.hid IN; clear IN
  refine (calls_keepW (IN2.out _)).mono ?_
  rintro e w1 ⟨x3, rfl, rfl, hb3⟩
  have K3 := Lib.hid (K2.out.below hb3)
  clear hb3
  clear IN2
  refine hKK _ _ (contQ_nil ⟨⟨_, rfl⟩, ?_⟩)
  clear hKK KK
  refine wpSeg_cons ?_
  simp only [pickL, List.getElem?_cons_zero, List.getElem?_cons_succ]
  repeat (go_big_quiet_step (fail))
  refine wpQuiet_nil ?_
  go_wp2_with fail
  rename_i KK hKK
  refine (NX.out (0 + 1) x3 (by omega) K3.out).mono ?_
  rintro e w1 ⟨be, x4, rfl, rfl, hbe, hk4, hg4⟩
  have K4 := Lib.hid hk4; clear hk4
  clear hg4
  refine hKK _ _ (contQ_nil ⟨⟨_, rfl⟩, ?_⟩)
  clear hKK KK
  refine wpSeg_cons ?_
  simp only [pickL, List.getElem?_cons_zero, List.getElem?_cons_succ]
  repeat (go_big_quiet_step (fail))
  refine wpQuiet_nil ?_
  go_wp2_with fail
  rename_i KK hKK
  have re := innerI_range (b := be) (show v.el ≤ v.eh by omega)
  have IN := fun w => inner_any v.el v.eh be w (by omega) (by omega) (by omega) hbe.1 hbe.2
  obtain ⟨E0, hnE0⟩ : ∃ z, innerI v.el v.eh be = z := ⟨_, rfl⟩
  simp only [hnE0] at IN re
  clear hnE0
  have IN2 := Lib.hid IN; clear IN
  refine (calls_keepW (IN2.out _)).mono ?_
  rintro e w1 ⟨x5, rfl, rfl, hb5⟩
  have K5 := Lib.hid (K4.out.below hb5)
  clear hb5
  clear IN2
  refine hKK _ _ (contQ_nil ⟨⟨_, rfl⟩, ?_⟩)
  clear hKK KK
  refine wpSeg_cons ?_
  simp only [pickL, List.getElem?_cons_zero, List.getElem?_cons_succ]
  repeat (go_big_quiet_step (fail))
  refine wpQuiet_nil ?_
  go_wp2_with fail
  rename_i KK hKK
  refine (NX.out (0 + 1 + 1) x5 (by omega) K5.out).mono ?_
  rintro e w1 ⟨bp, x6, rfl, rfl, hbp, hk6, hg6⟩
  have K6 := Lib.hid hk6; clear hk6
  clear hg6
  refine hKK _ _ (contQ_nil ⟨⟨_, rfl⟩, ?_⟩)
  clear hKK KK
  refine wpSeg_cons ?_
  simp only [pickL, List.getElem?_cons_zero, List.getElem?_cons_succ]
  repeat (go_big_quiet_step (fail))
  refine wpQuiet_nil ?_
  go_wp2_with fail
  rename_i KK hKK
  have rp := innerI_range (b := bp) (show v.pl ≤ v.ph by omega)
  have IN := fun w => inner_any v.pl v.ph bp w (by omega) (by omega) (by omega) hbp.1 hbp.2
  obtain ⟨P0, hnP0⟩ : ∃ z, innerI v.pl v.ph bp = z := ⟨_, rfl⟩
  simp only [hnP0] at IN rp
  clear hnP0
  have IN2 := Lib.hid IN; clear IN
  refine (calls_keepW (IN2.out _)).mono ?_
  rintro e w1 ⟨x7, rfl, rfl, hb7⟩
  have K7 := Lib.hid (K6.out.below hb7)
  clear hb7
  clear IN2
  refine hKK _ _ (contQ_nil ⟨⟨_, rfl⟩, ?_⟩)
  clear hKK KK
  refine wpSeg_cons ?_
  simp only [pickL, List.getElem?_cons_zero, List.getElem?_cons_succ]
  repeat (go_big_quiet_step (fail))
  refine wpQuiet_nil ?_
  go_wp2_with fail
  rename_i KK hKK
  refine (NX.out (0 + 1 + 1 + 1) x7 (by omega) K7.out).mono ?_
  rintro e w1 ⟨bg, x8, rfl, rfl, hbg, hk8, hg8⟩
  have K8 := Lib.hid hk8; clear hk8
  clear hg8
  refine hKK _ _ (contQ_nil ⟨⟨_, rfl⟩, ?_⟩)
  clear hKK KK
  refine wpSeg_cons ?_
  simp only [pickL, List.getElem?_cons_zero, List.getElem?_cons_succ]
  repeat (go_big_quiet_step (fail))
  refine wpQuiet_nil ?_
  go_wp2_with fail
  rename_i KK hKK
  have rg := innerI_range (b := bg) (show v.gl ≤ v.gh by omega)
  have IN := fun w => inner_any v.gl v.gh bg w (by omega) (by omega) (by omega) hbg.1 hbg.2
  obtain ⟨G0, hnG0⟩ : ∃ z, innerI v.gl v.gh bg = z := ⟨_, rfl⟩
  simp only [hnG0] at IN rg
  clear hnG0
  have IN2 := Lib.hid IN; clear IN
  refine (calls_keepW (IN2.out _)).mono ?_
  rintro e w1 ⟨x9, rfl, rfl, hb9⟩
  have K9 := Lib.hid (K8.out.below hb9)
  clear hb9
  clear IN2
  refine hKK _ _ (contQ_nil ⟨⟨_, rfl⟩, ?_⟩)
  clear hKK KK
  refine wpSeg_cons ?_
  simp only [pickL, List.getElem?_cons_zero, List.getElem?_cons_succ]
  repeat (go_big_quiet_step (fail))
  refine wpQuiet_nil ?_
  go_wp2_with fail
  rename_i KK hKK
  refine (NX.out (0 + 1 + 1 + 1 + 1) x9 (by omega) K9.out).mono ?_
  rintro e w1 ⟨bt, x10, rfl, rfl, hbt, hk10, hg10⟩
  have K10 := Lib.hid hk10; clear hk10
  clear hg10
  refine hKK _ _ (contQ_nil ⟨⟨_, rfl⟩, ?_⟩)
  clear hKK KK
  refine wpSeg_cons ?_
  simp only [pickL, List.getElem?_cons_zero, List.getElem?_cons_succ]
  repeat (go_big_quiet_step (fail))
  refine wpQuiet_nil ?_
  go_wp2_with fail
  rename_i KK hKK
  have rt := innerI_range (b := bt) (show v.tl ≤ v.th by omega)
  have IN := fun w => inner_any v.tl v.th bt w (by omega) (by omega) (by omega) hbt.1 hbt.2
  obtain ⟨T0, hnT0⟩ : ∃ z, innerI v.tl v.th bt = z := ⟨_, rfl⟩
  simp only [hnT0] at IN rt
  clear hnT0
  have IN2 := Lib.hid IN; clear IN
  refine (calls_keepW (IN2.out _)).mono ?_
  rintro e w1 ⟨x11, rfl, rfl, hb11⟩
  have K11 := Lib.hid (K10.out.below hb11)
  clear hb11
  clear IN2
  refine hKK _ _ (contQ_nil ⟨⟨_, rfl⟩, ?_⟩)
  clear hKK KK
  refine wpSeg_nil ?_
  simp only [pickL, List.getElem?_cons_zero, List.getElem?_cons_succ]
  repeat (go_big_quiet_step (fail))
  refine wpQuiet_nil ?_
  refine contN_nil ?_
  clear hbs hbe hbp hbg hbt
  have TR0 := Lib.hid (show Tru (y.vs v F G 0) S0 E0 P0 G0 T0 from ⟨rs, re, rp, rg, rt⟩)
  have e2 := HCC.out
  go_wp2_with fail
  go_loopw [13, 14, 15, 16, 17, 111] (fun a1 a2 a3 a4 a5 a6 wr => ∃ (i : Nat) (S E P Q T : Int), i ≤ k ∧ a1 = .int .i64 S ∧ a2 = .int .i64 E ∧ a3 = .int .i64 P ∧ a4 = .int .i64 Q ∧ a5 = .int .i64 T ∧ a6 = .int .i64 i ∧ Hid (Tru (y.vs v F G i) S E P Q T) ∧ Hid (S + E = S0 + E0) ∧ ∃ x, wr = gw W2 x ∧ Hid (KW W2 (u1.heap.size + z2.bs.size) (w.heap.size + 1 + 1) (5 + 6 * i) aB nB cB (gw W2 x))) (fun _ _ _ _ _ a6 _ => k - (intOf a6).toNat)
  case atStart => exact ⟨0, S0, E0, P0, G0, T0, Nat.zero_le _, rfl, rfl, rfl, rfl, rfl, rfl, TR0, Lib.hid rfl, x11, rfl, Lib.hid (K11.out.mono (by omega))⟩
  case round =>
    clear TR0
    obtain ⟨i, S, E, P, Q, T, hi, rfl, rfl, rfl, rfl, rfl, rfl, TR, HA, xr, rfl, KR⟩ := hrel
    by_cases hlt : i < k
    · skip
      obtain ⟨⟨S1, S2⟩, ⟨E1, E2⟩, ⟨P1, P2⟩, ⟨Q1, Q2⟩, T1, T2⟩ := tru_bounds (HVS.out i (by omega)) TR.out
      obtain ⟨-, -, -, -, ⟨y1, y2, y3⟩, ⟨y4, y5, y6⟩, y7, y8, y9⟩ := ystB_t HY.out
      obtain ⟨bc, oc, rfl, lc, hc⟩ := (HS.out.below (thru SW3.out SBu1.out)).resolve_left (by omega)
      obtain ⟨q0, q1⟩ := hc i hlt
      clear hc
      have cc := spanB_t.1 (allB_t.1 HCC.out i hlt)
      obtain ⟨f, hf0⟩ : ∃ f, F i = f := ⟨_, rfl⟩
      obtain ⟨g, hg0⟩ : ∃ g, G i = g := ⟨_, rfl⟩
      rw [hf0] at q0 cc
      rw [hg0] at q1 cc
      have F0 := Lib.hid hf0; have G0_ := Lib.hid hg0; clear hf0 hg0
      obtain ⟨c1, c2, c3⟩ := cc
      obtain ⟨kn, -, hkk⟩ := KR.out.k
      have ll := (Array.getElem?_eq_some_iff.1 hkk).1
      rw [gw_size, ZG.out] at ll
      have xpos : 0 < xr.bs.size := by omega
      clear ll hkk kn
      go_upto_region 15 with (fail)
      have C12 := Lib.hid (show ((gw W2 xr).alloc (.cells #[.int .i64 f, .int .i64 g] 23)).heap[W2.heap.size + xr.bs.size]? = some (.cells #[.int .i64 f, .int .i64 g] 23 (0, 0)) from alloc_at (by rw [gw_size, ZG.out]))
      obtain ⟨x12, hx12⟩ := gw_of_below (thru (below_alloc (gw W2 xr) (.cells #[.int .i64 f, .int .i64 g] 23)) (below_gw W2 xr))
      have hb12 := below_alloc (gw W2 xr) (.cells #[.int .i64 f, .int .i64 g] 23)
      rw [hx12] at hb12 C12 ⊢
      clear hx12
      have K12 := Lib.hid (KR.out.below hb12)
      clear hb12
      go_wp2_with fail
      have ra := rate_range HY.out (Int.le_refl T)
      have RT := fun W hb => RA.out W hb T HY.out
      obtain ⟨a, ha⟩ : ∃ a, y.rl T T = a := ⟨_, rfl⟩
      obtain ⟨b, hb⟩ : ∃ b, y.rh T T = b := ⟨_, rfl⟩
      simp only [ha, hb] at RT ra
      have RT2 := Lib.hid RT; have RL := Lib.hid ha; have RH := Lib.hid hb; clear RT ha hb
      refine (calls_keepW (RT2.out _ (thru (below_gw W2 x12) (thru SW3.out SBu1.out)))).mono ?_
      rintro e w1 ⟨x13, rfl, rfl, hb13⟩
      have K13 := Lib.hid (K12.out.below hb13)
      have C13 := Lib.hid ((hb13.block _ (Array.getElem?_eq_some_iff.1 C12.out).1).trans C12.out)
      clear hb13
      clear RT2
      go_wp2_with fail
      refine (NX.out (5 + 6 * i) x13 (by omega) K13.out).mono ?_
      rintro e w1 ⟨d1, x14, rfl, rfl, hd1, hk14, hg14⟩
      have K14 := Lib.hid hk14; clear hk14
      have C14 := Lib.hid ((hg14.block _ (Array.getElem?_eq_some_iff.1 C13.out).1 (by intro h; injection h with h; have := ZG.out; omega)).trans C13.out)
      clear hg14
      go_wp2_with fail
      refine (share_gw S a b d1 W2 x14 (by omega) (by omega) (by omega) hd1).mono ?_
      rintro e w1 ⟨r1, t1, x15, rfl, rfl, hr1, Hr1, hb15⟩
      have K15 := Lib.hid (K14.out.below hb15)
      have C15 := Lib.hid ((hb15.block _ (Array.getElem?_eq_some_iff.1 C14.out).1).trans C14.out)
      clear hb15
      clear hd1
      go_upto_region 16 with (fail)
      refine wp_region_steps (fun w' => ∃ x, w' = gw W2 x) [([0, 1, 2, 3], 4), ([], 5)] [6, 7, 8, 9, 10] [] (by kernel_rfl) (by kernel_rfl) ?_
      rintro _ ⟨qq, rfl⟩
      obtain ⟨x16, hx16⟩ := gw_gw W2 x15 qq
      have hb16 := below_gw (gw W2 x15) qq
      rw [hx16] at hb16 ⊢
      clear hx16 qq
      have K16 := Lib.hid (K15.out.below hb16)
      have C16 := Lib.hid ((hb16.block _ (Array.getElem?_eq_some_iff.1 C15.out).1).trans C15.out)
      clear hb16
      refine ⟨⟨_, rfl⟩, ?_⟩
      refine wpSeg_cons ?_
      simp only [pickL, List.getElem?_cons_zero, List.getElem?_cons_succ]
      repeat (go_big_quiet_step (fail))
      refine wpQuiet_nil ?_
      go_wp2_with fail
      rename_i KK hKK
      refine (NX.out (5 + 6 * i + 1) x16 (by omega) K16.out).mono ?_
      rintro e w1 ⟨d2, x17, rfl, rfl, hd2, hk17, hg17⟩
      have K17 := Lib.hid hk17; clear hk17
      have C17 := Lib.hid ((hg17.block _ (Array.getElem?_eq_some_iff.1 C16.out).1 (by intro h; injection h with h; have := ZG.out; omega)).trans C16.out)
      clear hg17
      refine hKK _ _ (contQ_nil ⟨⟨_, rfl⟩, ?_⟩)
      clear hKK KK
      refine wpSeg_cons ?_
      simp only [pickL, List.getElem?_cons_zero, List.getElem?_cons_succ]
      repeat (go_big_quiet_step (fail))
      refine wpQuiet_nil ?_
      go_wp2_with fail
      rename_i KK hKK
      refine (share_gw r1 y.sl y.sh d2 W2 x17 (by omega) (by omega) (by omega) hd2).mono ?_
      rintro e w1 ⟨r2, t2, x18, rfl, rfl, hr2, Hr2, hb18⟩
      have K18 := Lib.hid (K17.out.below hb18)
      have C18 := Lib.hid ((hb18.block _ (Array.getElem?_eq_some_iff.1 C17.out).1).trans C17.out)
      clear hb18
      clear hd2
      refine hKK _ _ (contQ_nil ⟨⟨_, rfl⟩, ?_⟩)
      clear hKK KK
      refine wpSeg_nil ?_
      simp only [pickL, List.getElem?_cons_zero, List.getElem?_cons_succ]
      repeat (go_big_quiet_step (fail))
      refine wpQuiet_nil ?_
      refine contN_nil ?_
      go_upto_region 17 with (fail)
      refine wp_region_steps (fun w' => ∃ x, w' = gw W2 x) [([0, 1, 2, 3], 4), ([], 5)] [6, 7, 8, 9, 10] [] (by kernel_rfl) (by kernel_rfl) ?_
      rintro _ ⟨qq, rfl⟩
      obtain ⟨x19, hx19⟩ := gw_gw W2 x18 qq
      have hb19 := below_gw (gw W2 x18) qq
      rw [hx19] at hb19 ⊢
      clear hx19 qq
      have K19 := Lib.hid (K18.out.below hb19)
      have C19 := Lib.hid ((hb19.block _ (Array.getElem?_eq_some_iff.1 C18.out).1).trans C18.out)
      clear hb19
      refine ⟨⟨_, rfl⟩, ?_⟩
      refine wpSeg_cons ?_
      simp only [pickL, List.getElem?_cons_zero, List.getElem?_cons_succ]
      repeat (go_big_quiet_step (fail))
      refine wpQuiet_nil ?_
      go_wp2_with fail
      rename_i KK hKK
      refine (NX.out (5 + 6 * i + 1 + 1) x19 (by omega) K19.out).mono ?_
      rintro e w1 ⟨d3, x20, rfl, rfl, hd3, hk20, hg20⟩
      have K20 := Lib.hid hk20; clear hk20
      have C20 := Lib.hid ((hg20.block _ (Array.getElem?_eq_some_iff.1 C19.out).1 (by intro h; injection h with h; have := ZG.out; omega)).trans C19.out)
      clear hg20
      refine hKK _ _ (contQ_nil ⟨⟨_, rfl⟩, ?_⟩)
      clear hKK KK
      refine wpSeg_cons ?_
      simp only [pickL, List.getElem?_cons_zero, List.getElem?_cons_succ]
      repeat (go_big_quiet_step (fail))
      refine wpQuiet_nil ?_
      go_wp2_with fail
      rename_i KK hKK
      refine (share_gw r1 y.gl y.gh d3 W2 x20 (by omega) (by omega) (by omega) hd3).mono ?_
      rintro e w1 ⟨r3, t3, x21, rfl, rfl, hr3, Hr3, hb21⟩
      have K21 := Lib.hid (K20.out.below hb21)
      have C21 := Lib.hid ((hb21.block _ (Array.getElem?_eq_some_iff.1 C20.out).1).trans C20.out)
      clear hb21
      clear hd3
      refine hKK _ _ (contQ_nil ⟨⟨_, rfl⟩, ?_⟩)
      clear hKK KK
      refine wpSeg_nil ?_
      simp only [pickL, List.getElem?_cons_zero, List.getElem?_cons_succ]
      repeat (go_big_quiet_step (fail))
      refine wpQuiet_nil ?_
      refine contN_nil ?_
      obtain ⟨⟨m0, m1⟩, ⟨m2, m3⟩, m4, m5, ⟨m6, m7⟩, m8, m9⟩ := heat_range (r := r1) (by omega) ⟨y7, y8, y9⟩ ⟨v16, v17⟩
      have cz : ¬ v.c = 0 := by omega
      obtain ⟨l, hl⟩ : ∃ l, (r1 * y.hl * 1000 + v.c - 1) / v.c = l := ⟨_, rfl⟩
      obtain ⟨h, hh⟩ : ∃ h, r1 * y.hh * 1000 / v.c = h := ⟨_, rfl⟩
      rw [hl] at m4 m6 m7
      rw [hh] at m5 m8 m9
      have HLO := Lib.hid hl; have HHI := Lib.hid hh; clear hl hh
      go_upto_region 18 with (fail)
      refine wp_region_steps (fun w' => ∃ x, w' = gw W2 x) [] [0, 1, 2, 3, 4, 5, 6, 7, 8, 9, 10, 11, 12, 13, 14, 15, 16, 17, 18, 19, 20, 21, 22, 23] [] (by kernel_rfl) (by kernel_rfl) ?_
      rintro _ ⟨qq, rfl⟩
      obtain ⟨x22, hx22⟩ := gw_gw W2 x21 qq
      have hb22 := below_gw (gw W2 x21) qq
      rw [hx22] at hb22 ⊢
      clear hx22 qq
      have K22 := Lib.hid (K21.out.below hb22)
      have C22 := Lib.hid ((hb22.block _ (Array.getElem?_eq_some_iff.1 C21.out).1).trans C21.out)
      clear hb22
      refine ⟨⟨_, rfl⟩, ?_⟩
      refine wpSeg_nil ?_
      simp only [pickL, List.getElem?_cons_zero, List.getElem?_cons_succ]
      repeat (go_big_quiet_step (fail))
      refine wpQuiet_nil ?_
      refine contN_nil ?_
      clear m0 m1 m2 m3 m4 m5
      go_upto_region 19 with (fail)
      cases t1 with
      | false =>
        go_wp2_with fail
        refine (calls_keepW (alive_any _)).mono ?_
        rintro e w1 ⟨xe, rfl, rfl, -⟩
        go_wp2_with fail
        go_ret
        exact ⟨rfl, thru (below_gw W2 xe) HBW2.out⟩
      | true =>
        cases t2 with
        | false =>
          go_wp2_with fail
          refine (calls_keepW (alive_any _)).mono ?_
          rintro e w1 ⟨xe, rfl, rfl, -⟩
          go_wp2_with fail
          go_ret
          exact ⟨rfl, thru (below_gw W2 xe) HBW2.out⟩
        | true =>
          cases t3 with
          | false =>
            go_wp2_with fail
            refine (calls_keepW (alive_any _)).mono ?_
            rintro e w1 ⟨xe, rfl, rfl, -⟩
            go_wp2_with fail
            go_ret
            exact ⟨rfl, thru (below_gw W2 xe) HBW2.out⟩
          | true =>
            by_cases lh : h < l
            · skip
              go_wp2_with fail
              refine (calls_keepW (alive_any _)).mono ?_
              rintro e w1 ⟨xe, rfl, rfl, -⟩
              go_wp2_with fail
              go_ret
              exact ⟨rfl, thru (below_gw W2 xe) HBW2.out⟩
            have H1 := Hr1 rfl; have H2 := Hr2 rfl; have H3 := Hr3 rfl
            clear Hr1 Hr2 Hr3
            go_upto_region 22 with (fail)
            obtain ⟨S3, hnS3⟩ : ∃ z, S - r1 = z := ⟨_, rfl⟩
            obtain ⟨E3, hnE3⟩ : ∃ z, E + r1 = z := ⟨_, rfl⟩
            obtain ⟨P3, hnP3⟩ : ∃ z, P + r2 = z := ⟨_, rfl⟩
            obtain ⟨Q3, hnQ3⟩ : ∃ z, Q + r3 = z := ⟨_, rfl⟩
            rw [hnS3, hnE3, hnP3, hnQ3]
            have NS := Lib.hid hnS3; have NE := Lib.hid hnE3; have NP := Lib.hid hnP3; have NQ := Lib.hid hnQ3
            have nA : ((S3 + E3) != (S0 + E0)) = false := by have := HA.out; simp; omega
            have bS : S3 + E3 ≤ 4294967296 := by omega
            have bT : 0 ≤ S3 + E3 := by omega
            have nB2 := nA
            have NA := Lib.hid nA; clear nA nB2 hnS3 hnE3 hnP3 hnQ3
            haveI hne : Nonempty (GrewC W2 (W2.heap.size + xr.bs.size) f g) := ⟨⟨x22, cell_of_block C22.out 0 (by simp), cell_of_block C22.out 1 (by simp)⟩⟩
            refine wp_region_steps (fun w' => ∃ x : GrewC W2 (W2.heap.size + xr.bs.size) f g, w' = gw W2 x.g) [([0, 1, 2, 3, 4, 7, 8], 5), ([], 6), ([], 9), ([], 10)] [11, 12, 13] [] (by kernel_rfl) (by kernel_rfl) ?_
            rintro _ ⟨qq, rfl⟩
            obtain ⟨x23, hx23⟩ := gw_gw W2 x22 qq
            have hb23 := below_gw (gw W2 x22) qq
            rw [hx23] at hb23 ⊢
            clear hx23 qq
            have K23 := Lib.hid (K22.out.below hb23)
            have C23 := Lib.hid ((hb23.block _ (Array.getElem?_eq_some_iff.1 C22.out).1).trans C22.out)
            clear hb23
            refine ⟨⟨⟨x23, cell_of_block C23.out 0 (by simp), cell_of_block C23.out 1 (by simp)⟩, rfl⟩, ?_⟩
            refine wpSeg_cons ?_
            simp only [pickL, List.getElem?_cons_zero, List.getElem?_cons_succ]
            repeat (go_big_quiet_step (fail))
            refine wpQuiet_nil ?_
            go_wp2_with fail
            rename_i KK hKK
            refine (NX.out (5 + 6 * i + 1 + 1 + 1) x23 (by omega) K23.out).mono ?_
            rintro e w1 ⟨d4, x24, rfl, rfl, hd4, hk24, hg24⟩
            have K24 := Lib.hid hk24; clear hk24
            have C24 := Lib.hid ((hg24.block _ (Array.getElem?_eq_some_iff.1 C23.out).1 (by intro h; injection h with h; have := ZG.out; omega)).trans C23.out)
            clear hg24
            refine hKK _ _ (contQ_nil ⟨⟨⟨x24, cell_of_block C24.out 0 (by simp), cell_of_block C24.out 1 (by simp)⟩, rfl⟩, ?_⟩)
            clear hKK KK
            refine wpSeg_cons ?_
            simp only [pickL, List.getElem?_cons_zero, List.getElem?_cons_succ]
            repeat (go_big_quiet_step (fail))
            refine wpQuiet_nil ?_
            go_wp2_with fail
            rename_i KK hKK
            have rw_ := innerI_range (b := d4) (show l ≤ h by omega)
            have IN := fun w => inner_any l h d4 w (by omega) (by omega) (by omega) hd4.1 hd4.2
            obtain ⟨wa, hnwa⟩ : ∃ z, innerI l h d4 = z := ⟨_, rfl⟩
            simp only [hnwa] at IN rw_
            clear hnwa
            have IN2 := Lib.hid IN; clear IN
            refine (calls_keepW (IN2.out _)).mono ?_
            rintro e w1 ⟨x25, rfl, rfl, hb25⟩
            have K25 := Lib.hid (K24.out.below hb25)
            have C25 := Lib.hid ((hb25.block _ (Array.getElem?_eq_some_iff.1 C24.out).1).trans C24.out)
            clear hb25
            clear IN2
            refine hKK _ _ (contQ_nil ⟨⟨⟨x25, cell_of_block C25.out 0 (by simp), cell_of_block C25.out 1 (by simp)⟩, rfl⟩, ?_⟩)
            clear hKK KK
            refine wpSeg_cons ?_
            simp only [pickL, List.getElem?_cons_zero, List.getElem?_cons_succ]
            repeat (go_big_quiet_step (fail))
            refine wpQuiet_nil ?_
            go_wp2_with fail
            rename_i KK hKK
            refine (NX.out (5 + 6 * i + 1 + 1 + 1 + 1) x25 (by omega) K25.out).mono ?_
            rintro e w1 ⟨d5, x26, rfl, rfl, hd5, hk26, hg26⟩
            have K26 := Lib.hid hk26; clear hk26
            have C26 := Lib.hid ((hg26.block _ (Array.getElem?_eq_some_iff.1 C25.out).1 (by intro h; injection h with h; have := ZG.out; omega)).trans C25.out)
            clear hg26
            refine hKK _ _ (contQ_nil ⟨⟨⟨x26, cell_of_block C26.out 0 (by simp), cell_of_block C26.out 1 (by simp)⟩, rfl⟩, ?_⟩)
            clear hKK KK
            refine wpSeg_cons ?_
            simp only [pickL, List.getElem?_cons_zero, List.getElem?_cons_succ]
            repeat (go_big_quiet_step (fail))
            refine wpQuiet_nil ?_
            go_wp2_with fail
            rename_i KK hKK
            have rc_ := innerI_range (b := d5) (show f ≤ g by omega)
            have IN := fun w => inner_any f g d5 w (by omega) (by omega) (by omega) hd5.1 hd5.2
            obtain ⟨co, hnco⟩ : ∃ z, innerI f g d5 = z := ⟨_, rfl⟩
            simp only [hnco] at IN rc_
            clear hnco
            have IN2 := Lib.hid IN; clear IN
            refine (calls_keepW (IN2.out _)).mono ?_
            rintro e w1 ⟨x27, rfl, rfl, hb27⟩
            have K27 := Lib.hid (K26.out.below hb27)
            have C27 := Lib.hid ((hb27.block _ (Array.getElem?_eq_some_iff.1 C26.out).1).trans C26.out)
            clear hb27
            clear IN2
            refine hKK _ _ (contQ_nil ⟨⟨⟨x27, cell_of_block C27.out 0 (by simp), cell_of_block C27.out 1 (by simp)⟩, rfl⟩, ?_⟩)
            clear hKK KK
            refine wpSeg_nil ?_
            simp only [pickL, List.getElem?_cons_zero, List.getElem?_cons_succ]
            repeat (go_big_quiet_step (fail))
            refine wpQuiet_nil ?_
            refine contN_nil ?_
            clear hd4 hd5 hne
            obtain ⟨TRN, oN⟩ := true_next HY.out HVS.out hlt TR.out (by rw [RL.out, RH.out]; exact H1) H2 H3 (by rw [HLO.out, HHI.out]; exact rw_) (by rw [F0.out, G0_.out]; exact rc_)
            rw [NS.out, NE.out, NP.out, NQ.out] at TRN
            obtain ⟨T3, hnT3⟩ : ∃ z, T + (wa - co) = z := ⟨_, rfl⟩
            rw [hnT3] at TRN
            go_upto_region 23 with (fail)
            rw [hnT3]
            clear hnT3
            obtain ⟨bl, ol, rfl, ll, hcl⟩ := (HL.out.below SW3.out).resolve_left (by omega)
            have hc := hcl i hlt
            clear hcl
            have TRK := Lib.hid TRN
            obtain ⟨Z, hZ⟩ : ∃ Z, y.vs v F G (i + 1) = Z := ⟨_, rfl⟩
            simp only [hZ] at hc oN TRN
            clear hZ
            obtain ⟨z1, z2, z3, z4, z5⟩ := TRN
            have w0 : W2.cell? ⟨bl, ol + i * 13, none⟩ = some (.int .i64 Z.sl) := hc 0 (by omega)
            have w1 : W2.cell? ⟨bl, ol + i * 13 + 1, none⟩ = some (.int .i64 Z.sh) := hc 1 (by omega)
            have w2 : W2.cell? ⟨bl, ol + i * 13 + 2, none⟩ = some (.int .i64 Z.el) := hc 2 (by omega)
            have w3 : W2.cell? ⟨bl, ol + i * 13 + 3, none⟩ = some (.int .i64 Z.eh) := hc 3 (by omega)
            have w4 : W2.cell? ⟨bl, ol + i * 13 + 4, none⟩ = some (.int .i64 Z.pl) := hc 4 (by omega)
            have w5 : W2.cell? ⟨bl, ol + i * 13 + 5, none⟩ = some (.int .i64 Z.ph) := hc 5 (by omega)
            have w6 : W2.cell? ⟨bl, ol + i * 13 + 6, none⟩ = some (.int .i64 Z.gl) := hc 6 (by omega)
            have w7 : W2.cell? ⟨bl, ol + i * 13 + 7, none⟩ = some (.int .i64 Z.gh) := hc 7 (by omega)
            have w8 : W2.cell? ⟨bl, ol + i * 13 + 8, none⟩ = some (.int .i64 Z.ol) := hc 8 (by omega)
            have w9 : W2.cell? ⟨bl, ol + i * 13 + 9, none⟩ = some (.int .i64 Z.oh) := hc 9 (by omega)
            have w10 : W2.cell? ⟨bl, ol + i * 13 + 10, none⟩ = some (.int .i64 Z.tl) := hc 10 (by omega)
            have w11 : W2.cell? ⟨bl, ol + i * 13 + 11, none⟩ = some (.int .i64 Z.th) := hc 11 (by omega)
            clear hc
            have nA := NA.out
            go_wp2_with fail
            refine (calls_keepW (has_true _ z1)).mono ?_
            rintro e w1 ⟨x28, rfl, rfl, hb28⟩
            have K28 := Lib.hid (K27.out.below hb28)
            have C28 := Lib.hid ((hb28.block _ (Array.getElem?_eq_some_iff.1 C27.out).1).trans C27.out)
            clear hb28
            go_wp2_with fail
            refine (calls_keepW (has_true _ z2)).mono ?_
            rintro e w1 ⟨x29, rfl, rfl, hb29⟩
            have K29 := Lib.hid (K28.out.below hb29)
            have C29 := Lib.hid ((hb29.block _ (Array.getElem?_eq_some_iff.1 C28.out).1).trans C28.out)
            clear hb29
            go_wp2_with fail
            refine (calls_keepW (has_true _ z3)).mono ?_
            rintro e w1 ⟨x30, rfl, rfl, hb30⟩
            have K30 := Lib.hid (K29.out.below hb30)
            have C30 := Lib.hid ((hb30.block _ (Array.getElem?_eq_some_iff.1 C29.out).1).trans C29.out)
            clear hb30
            go_wp2_with fail
            refine (calls_keepW (has_true _ z4)).mono ?_
            rintro e w1 ⟨x31, rfl, rfl, hb31⟩
            have K31 := Lib.hid (K30.out.below hb31)
            have C31 := Lib.hid ((hb31.block _ (Array.getElem?_eq_some_iff.1 C30.out).1).trans C30.out)
            clear hb31
            go_wp2_with fail
            refine (calls_keepW (has_true _ oN)).mono ?_
            rintro e w1 ⟨x32, rfl, rfl, hb32⟩
            have K32 := Lib.hid (K31.out.below hb32)
            have C32 := Lib.hid ((hb32.block _ (Array.getElem?_eq_some_iff.1 C31.out).1).trans C31.out)
            clear hb32
            go_wp2_with fail
            refine (calls_keepW (has_true _ z5)).mono ?_
            rintro e w1 ⟨x33, rfl, rfl, hb33⟩
            have K33 := Lib.hid (K32.out.below hb33)
            have C33 := Lib.hid ((hb33.block _ (Array.getElem?_eq_some_iff.1 C32.out).1).trans C32.out)
            clear hb33
            go_wp2_with fail
            go_roundw
            case rel => exact ⟨i + 1, S3, E3, P3, Q3, T3, by omega, rfl, rfl, rfl, rfl, rfl, by go_num, TRK, Lib.hid (by have := HA.out; have := NS.out; have := NE.out; omega), x33, rfl, Lib.hid (K33.out.mono (by omega))⟩
            case measure => simp [intOf]; omega
    · skip
      go_wp2_with fail
      refine (calls_keepW (alive_any _)).mono ?_
      rintro e w1 ⟨xe, rfl, rfl, -⟩
      go_wp2_with fail
      go_ret
      exact ⟨rfl, thru (below_gw W2 xe) HBW2.out⟩
end Go.Proofs.Ytecbacbecopbeaa
