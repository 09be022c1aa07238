/- Contract of Strength. No conditions beyond each theorem's own. -/
import Derived.Test.YtjgnafhbeekebaaGreatLf
set_option linter.unusedVariables false
set_option linter.unusedSimpArgs false
set_option linter.unusedSectionVars false
set_option linter.constructorNameAsVariable false
namespace Go.Proofs.YtjgnafhbeekebaaGreat.L1
open Go.RowKit
open Go.Proofs.YtjgnafhbeekebaaGreat

attribute [local go_sem] gw_cell gw_frozen gw_size

def Tab.strE (t : Tab) (lo hi tlo thi : Int) : Int := if t.okB = true ∧ lo ≤ hi then (if t.fitT tlo thi = true then (if t.tb.noneB lo hi tlo thi = true then 4 else 0) else 2) else 1
def Tab.strL (t : Tab) (lo hi tlo thi : Int) : Int := if t.strE lo hi tlo thi = 0 then t.tb.strLo lo tlo thi else 0
def Tab.strH (t : Tab) (lo hi tlo thi : Int) : Int := if t.strE lo hi tlo thi = 0 then t.tb.strHi hi tlo thi else 0
section
variable {t : Tab} {lo hi tlo thi : Int}
theorem Tab.strE_bad (h : t.okB = false) : t.strE lo hi tlo thi = 1 := by unfold Tab.strE; rw [h]; simp
theorem Tab.strE_arg (h : ¬ lo ≤ hi) : t.strE lo hi tlo thi = 1 := by unfold Tab.strE; rw [if_neg (fun x => h x.2)]
theorem Tab.strE_far (h : t.okB = true) (hl : lo ≤ hi) (h2 : t.fitT tlo thi = false) : t.strE lo hi tlo thi = 2 := by unfold Tab.strE; rw [if_pos ⟨h, hl⟩, h2]; rfl
theorem Tab.strE_none (h : t.okB = true) (hl : lo ≤ hi) (h2 : t.fitT tlo thi = true) (h3 : t.tb.noneB lo hi tlo thi = true) : t.strE lo hi tlo thi = 4 := by unfold Tab.strE; rw [if_pos ⟨h, hl⟩, if_pos h2, if_pos h3]
theorem Tab.strE_ok (h : t.okB = true) (hl : lo ≤ hi) (h2 : t.fitT tlo thi = true) (h3 : t.tb.noneB lo hi tlo thi = false) : t.strE lo hi tlo thi = 0 := by unfold Tab.strE; rw [if_pos ⟨h, hl⟩, if_pos h2, h3]; rfl
theorem Tab.strE_zero (h : t.strE lo hi tlo thi = 0) : t.okB = true ∧ lo ≤ hi ∧ t.fitT tlo thi = true ∧ t.tb.noneB lo hi tlo thi = false := by
  unfold Tab.strE at h
  split at h
  · rename_i h1
    split at h
    · rename_i h2
      split at h
      · omega
      · rename_i h3; exact ⟨h1.1, h1.2, h2, by simpa using h3⟩
    · omega
  · omega
theorem Tab.str_zero (h : ¬ t.strE lo hi tlo thi = 0) : t.strL lo hi tlo thi = 0 ∧ t.strH lo hi tlo thi = 0 := ⟨if_neg h, if_neg h⟩
theorem frB_mono (g : t.Good) (ft : t.tb.FitT tlo thi) (i j : Nat) (hij : i ≤ j) (hj : j < t.tb.cnt) (h : t.tb.frB lo tlo thi i = true) : t.tb.frB lo tlo thi j = true := by
  have hl := Tab.cnt_le hj
  have m := flr_mono (g.ok.seeH_d _ _ _) (g.ok.seeH_d _ _ _) (g.ok.seeH_mono ft (s := t.tb.first + i) (s' := t.tb.first + j) (by omega) (by omega) hl)
  have h' := of_decide_eq_true h
  exact decide_eq_true (by omega)
theorem paB_mono (g : t.Good) (ft : t.tb.FitT tlo thi) (i j : Nat) (hij : i ≤ j) (hj : j < t.tb.cnt) (h : t.tb.paB hi tlo thi i = true) : t.tb.paB hi tlo thi j = true := by
  have hl := Tab.cnt_le hj
  have m := cei_mono (g.ok.seeL_d _ _ _) (g.ok.seeL_d _ _ _) (g.ok.seeL_mono ft (s := t.tb.first + i) (s' := t.tb.first + j) (by omega) (by omega) hl)
  have h' := of_decide_eq_true h
  exact decide_eq_true (by omega)
/-- what is shown is small -/
theorem see_small (g : t.Good) (ft : t.tb.FitT tlo thi) {s : Int} (h0 : t.tb.first ≤ s) (h1 : s ≤ t.tb.last) : (-10000 ≤ (t.tb.seeH tlo thi s).flr ∧ (t.tb.seeH tlo thi s).cei ≤ 20000) ∧ (-10000 ≤ (t.tb.seeL tlo thi s).flr ∧ (t.tb.seeL tlo thi s).cei ≤ 20000) := by
  obtain ⟨a, b⟩ := g.ok.seeH_range ft h0 h1
  obtain ⟨c, d⟩ := g.ok.seeL_range ft h0 h1
  exact ⟨⟨(ofI_le (g.ok.seeH_d _ _ _)).1 a, (le_ofI (g.ok.seeH_d _ _ _)).1 b⟩, (ofI_le (g.ok.seeL_d _ _ _)).1 c, (le_ofI (g.ok.seeL_d _ _ _)).1 d⟩
theorem lo_small (g : t.Good) (ft : t.tb.FitT tlo thi) (hn : t.tb.noneB lo hi tlo thi = false) (h : t.tb.first < t.tb.from_ lo tlo thi) : -20000 ≤ lo ∧ lo ≤ 20000 := by
  obtain ⟨n1, n2⟩ := Tb.noneB_f.1 hn
  have fl : t.tb.from_ lo tlo thi ≤ t.tb.last := Tb.cnt_lt.1 n1
  have a := g.ok.fr_below (lo := lo) (tlo := tlo) (thi := thi) (s := t.tb.first) (Int.le_refl _) h
  have b := g.ok.fr_at n1
  have ln := g.ok.len
  have s1 := (see_small g ft (s := t.tb.first) (Int.le_refl _) (by omega)).1
  have s2 := (see_small g ft (s := t.tb.from_ lo tlo thi) (by omega) fl).1
  rw [ofI_le (g.ok.seeH_d _ _ _)] at a b
  have := flr_le_cei (g.ok.seeH_d tlo thi (t.tb.from_ lo tlo thi))
  omega
theorem hi_small (g : t.Good) (ft : t.tb.FitT tlo thi) (hn : t.tb.noneB lo hi tlo thi = false) (h : t.tb.past hi tlo thi - 1 < t.tb.last) : -20000 ≤ hi ∧ hi ≤ 20000 := by
  obtain ⟨n1, n2⟩ := Tb.noneB_f.1 hn
  have p0 : t.tb.first ≤ t.tb.past hi tlo thi - 1 := by unfold Tb.past; omega
  have nl : t.tb.paN hi tlo thi < t.tb.cnt := Tb.cnt_lt.2 (by unfold Tb.past at h; omega)
  have a := g.ok.pa_below (hi := hi) (tlo := tlo) (thi := thi) (s := t.tb.past hi tlo thi - 1) p0 (by omega)
  have b := g.ok.pa_at nl
  have s1 := (see_small g ft (s := t.tb.past hi tlo thi - 1) p0 (by omega)).2
  have s2 := (see_small g ft (s := t.tb.past hi tlo thi) (by omega) (by omega)).2
  rw [le_ofI (g.ok.seeL_d _ _ _)] at a b
  have := flr_le_cei (g.ok.seeL_d tlo thi (t.tb.past hi tlo thi - 1))
  omega
end

set_option maxRecDepth 100000 in
set_option maxHeartbeats 8000000 in
theorem Strength_any (t : Tab) (lo hi tlo thi : Int) (w : World) (hI : t.In w) (hf : t.Fits) :
    Calls Tryz.prog 33 #[t.val, .agg #[.int .i64 lo, .int .i64 hi], .agg #[.int .i64 tlo, .int .i64 thi]] w fun e w' =>
      e = .returned (.tuple #[.agg #[.int .i64 (t.strL lo hi tlo thi), .int .i64 (t.strH lo hi tlo thi)], .int .i64 (t.strE lo hi tlo thi)]) ∧ Below w.heap.size w w' := by
  have hmf : ∀ (fn : Fn) (first cap : Array Value) (w : World), (Instr.makeFunc fn first cap).run Tryz.prog w = .ok (.func fn first cap) w := fun _ _ _ _ => rfl
  obtain ⟨W1, hW1⟩ : ∃ W1, (((w.alloc (.cells #[.slice t.aT t.nT t.cT, .slice t.aS t.nS t.cS, .slice t.H.a t.H.n t.H.c, .slice t.R.a t.R.n t.R.c] 25)).alloc (.cells #[.int .i64 lo, .int .i64 hi] 27)).alloc (.cells #[.int .i64 tlo, .int .i64 thi] 27)).alloc (.cells #[.int .i64 0, .int .i64 0] 27) = W1 := ⟨_, rfl⟩
  have hBc : Below w.heap.size w W1 := by rw [← hW1]; exact (((below_alloc _ _).alloc (by simp) _).alloc (by simp <;> omega) _).alloc (by simp <;> omega) _
  have zc0 : W1.heap[w.heap.size]? = some (.cells #[.slice t.aT t.nT t.cT, .slice t.aS t.nS t.cS, .slice t.H.a t.H.n t.H.c, .slice t.R.a t.R.n t.R.c] 25 (0, 0)) := by rw [← hW1]; exact alloc_keep (alloc_keep (alloc_keep (alloc_at rfl)))
  have zc1 : W1.heap[w.heap.size + 1]? = some (.cells #[.int .i64 lo, .int .i64 hi] 27 (0, 0)) := by rw [← hW1]; exact alloc_keep (alloc_keep (alloc_at (by simp)))
  have zc2 : W1.heap[w.heap.size + 1 + 1]? = some (.cells #[.int .i64 tlo, .int .i64 thi] 27 (0, 0)) := by rw [← hW1]; exact alloc_keep (alloc_at (by simp <;> omega))
  have zc3 : W1.heap[w.heap.size + 1 + 1 + 1]? = some (.cells #[.int .i64 0, .int .i64 0] 27 (0, 0)) := by rw [← hW1]; exact alloc_at (by simp <;> omega)
  have c00 : W1.cell? ⟨w.heap.size, 0, none⟩ = some (.slice t.aT t.nT t.cT) := cell_of_block zc0 0 (by simp)
  have c01 : W1.cell? ⟨w.heap.size, 1, none⟩ = some (.slice t.aS t.nS t.cS) := cell_of_block zc0 1 (by simp)
  have c02 : W1.cell? ⟨w.heap.size, 2, none⟩ = some (.slice t.H.a t.H.n t.H.c) := cell_of_block zc0 2 (by simp)
  have c03 : W1.cell? ⟨w.heap.size, 3, none⟩ = some (.slice t.R.a t.R.n t.R.c) := cell_of_block zc0 3 (by simp)
  have c10 : W1.cell? ⟨w.heap.size + 1, 0, none⟩ = some (.int .i64 lo) := cell_of_block zc1 0 (by simp)
  have c11 : W1.cell? ⟨w.heap.size + 1, 1, none⟩ = some (.int .i64 hi) := cell_of_block zc1 1 (by simp)
  have c20 : W1.cell? ⟨w.heap.size + 1 + 1, 0, none⟩ = some (.int .i64 tlo) := cell_of_block zc2 0 (by simp)
  have c21 : W1.cell? ⟨w.heap.size + 1 + 1, 1, none⟩ = some (.int .i64 thi) := cell_of_block zc2 1 (by simp)
  have c30 : W1.cell? ⟨w.heap.size + 1 + 1 + 1, 0, none⟩ = some (.int .i64 0) := cell_of_block zc3 0 (by simp)
  have c31 : W1.cell? ⟨w.heap.size + 1 + 1 + 1, 1, none⟩ = some (.int .i64 0) := cell_of_block zc3 1 (by simp)
  have lc0 := (Array.getElem?_eq_some_iff.1 zc0).1
  have lc1 := (Array.getElem?_eq_some_iff.1 zc1).1
  have lc2 := (Array.getElem?_eq_some_iff.1 zc2).1
  have lc3 := (Array.getElem?_eq_some_iff.1 zc3).1
  have fc30 := frozen_of_block zc3 0
  have fc31 := frozen_of_block zc3 1
  have Zc0 := Lib.hid zc0
  have Zc1 := Lib.hid zc1
  have Zc2 := Lib.hid zc2
  have Zc3 := Lib.hid zc3
  clear zc0 zc1 zc2 zc3
  have HBc := Lib.hid hBc; clear hBc
  have HWc := Lib.hid hW1; clear hW1
  have I1 := hI.below HBc.out
  have CK := Check_any t W1 I1 hf
  clear hI
  cases h1 : t.okB with
  | false =>
    have e0 := Tab.strE_bad (lo := lo) (hi := hi) (tlo := tlo) (thi := thi) h1
    obtain ⟨e1, e2⟩ := Tab.str_zero (t := t) (lo := lo) (hi := hi) (tlo := tlo) (thi := thi) (by rw [e0]; decide)
    rw [e0, e1, e2]
    rw [h1] at CK
    have HCK := Lib.hid CK
    clear h1 e0 e1 e2 CK I1
    unfold Tab.val at HCK ⊢
    go_enter Tryz.func33, Tryz.ntmps33
    go_upto_region 1 with (fail)
    rw [HWc.out]
    go_wp2_with fail
    refine (Calls.grown HCK.out).mono ?_
    rintro e w1 ⟨rfl, z1, rfl⟩
    go_wp2_with fail
    refine bodyPost_ret (v := .tuple #[.agg #[.int .i64 0, .int .i64 0], .int .i64 1]) (by simp [results, Tryz.results33, go_sem, *]) rfl ⟨rfl, ?_⟩
    exact ((HBc.out.gw z1).setCell (by simp <;> omega) _).setCell (by simp <;> omega) _
  | true =>
    rw [h1] at CK
    have HCK := Lib.hid CK
    by_cases hl : lo ≤ hi
    · have g := Tab.good h1
      have t2 : 2 ≤ t.nT := g.ok.t2
      have t32 : t.nT ≤ 32 := g.ok.t32
      have s2 : 2 ≤ t.nS := g.ok.s2
      have s32 : t.nS ≤ 32 := g.ok.s32
      cases h3 : t.fitT tlo thi with
      | false =>
        have e0 := Tab.strE_far (t := t) (lo := lo) (hi := hi) (tlo := tlo) (thi := thi) h1 hl h3
        obtain ⟨e1, e2⟩ := Tab.str_zero (t := t) (lo := lo) (hi := hi) (tlo := tlo) (thi := thi) (by rw [e0]; decide)
        rw [e0, e1, e2]
        have WA := Lib.hid (fun z => warm_b (b := false) t w.heap.size tlo thi (gw W1 z) (I1.below (below_gw W1 z)) t2 t32 (below_cell (below_gw W1 z) c00) h3)
        clear h1 h3 e0 e1 e2 CK I1 g t2 t32 s2 s32
        unfold Tab.val at HCK ⊢
        go_enter Tryz.func33, Tryz.ntmps33
        go_upto_region 1 with (fail)
        rw [HWc.out]
        go_wp2_with fail
        refine (Calls.grown HCK.out).mono ?_
        rintro e w1 ⟨rfl, z1, rfl⟩
        go_wp2_with fail
        refine (Calls.gw_of (WA.out z1)).mono ?_
        rintro e w1 ⟨rfl, z2, rfl⟩
        go_wp2_with fail
        refine bodyPost_ret (v := .tuple #[.agg #[.int .i64 0, .int .i64 0], .int .i64 2]) (by simp [results, Tryz.results33, go_sem, *]) rfl ⟨rfl, ?_⟩
        exact ((HBc.out.gw z2).setCell (by simp <;> omega) _).setCell (by simp <;> omega) _
      | true =>
        have WA := Lib.hid (fun z => warm_b (b := true) t w.heap.size tlo thi (gw W1 z) (I1.below (below_gw W1 z)) t2 t32 (below_cell (below_gw W1 z) c00) h3)
        have ft := Tab.fitT_t h3
        have SA := Lib.hid (fun W (hb : Below W1.heap.size W1 W) => (⟨I1.below hb, below_cell hb c00, below_cell hb c01, below_cell hb c02, below_cell hb c20, below_cell hb c21⟩ : SeesAt t w.heap.size (w.heap.size + 1 + 1) tlo thi W))
        have GD := Lib.hid g
        have FT := Lib.hid ft
        have ESN := Lib.hid (fun h => Tab.strE_none (lo := lo) (hi := hi) h1 hl h3 h)
        have ESO := Lib.hid (fun h => Tab.strE_ok (lo := lo) (hi := hi) h1 hl h3 h)
        have ln := g.ok.len
        have b0 := g.ok.bS 0 (by show 0 < t.nS; omega)
        have bl := g.ok.bS (t.nS - 1) (by show t.nS - 1 < t.nS; omega)
        rcases I1.iS with h | ⟨bS, oS, eS, lS, hcS⟩
        · omega
        have x0 := hcS 0 (by omega)
        have xl := hcS (t.nS - 1) (by omega)
        rw [Nat.add_zero] at x0
        have d0 : t.S 0 = t.tb.first := rfl
        have dl : t.S (t.nS - 1) = t.tb.last := rfl
        have d0' : t.tb.S 0 = t.tb.first := rfl
        have dl' : t.tb.S (t.tb.nS - 1) = t.tb.last := rfl
        rw [d0] at x0
        rw [dl] at xl
        rw [d0'] at b0
        have bl' : 0 ≤ t.tb.last ∧ t.tb.last ≤ 10000 := bl
        have ec : ((t.tb.cnt : Nat) : Int) = t.tb.last - t.tb.first + 1 := by unfold Tb.cnt; omega
        have en1 : ((t.nS : Int) - 1).toNat = t.nS - 1 := by omega
        have EC := Lib.hid ec
        have MF := Lib.hid (fun i j hij hj h => frB_mono (lo := lo) g ft i j hij hj h)
        have MP := Lib.hid (fun i j hij hj h => paB_mono (hi := hi) g ft i j hij hj h)
        clear h1 h3 CK I1 hcS d0 dl d0' dl' bl ec g ft
        obtain ⟨fst, hfs⟩ : ∃ f, t.tb.first = f := ⟨_, rfl⟩
        obtain ⟨lst, hls⟩ : ∃ f, t.tb.last = f := ⟨_, rfl⟩
        rw [hfs] at x0 b0 ln EC
        rw [hls] at xl bl' ln EC
        have HFS := Lib.hid hfs; have HLS := Lib.hid hls; clear hfs hls
        have ES := Lib.hid eS
        unfold Tab.val at HCK ⊢
        rw [eS] at c01 HCK HWc ⊢
        clear eS
        go_enter Tryz.func33, Tryz.ntmps33
        go_upto_region 1 with (fail)
        rw [HWc.out]
        go_wp2_with fail
        refine (Calls.grown HCK.out).mono ?_
        rintro e w1 ⟨rfl, z1, rfl⟩
        go_wp2_with fail
        refine (Calls.gw_of (WA.out z1)).mono ?_
        rintro e w1 ⟨rfl, z2, rfl⟩
        rw [ES.out] at Zc0
        go_upto_region 6 with (fail)
        obtain ⟨W2, hW2⟩ : ∃ W2, ((gw W1 z2)).alloc (.cells #[.func (.func 51) #[] #[.pointer (some ⟨w.heap.size, 0, none⟩), .pointer (some ⟨w.heap.size + 1 + 1, 0, none⟩)]] 98) = W2 := ⟨_, rfl⟩
        have hbW2 : Below W1.heap.size W1 W2 := by rw [← hW2]; exact (below_gw W1 z2).alloc (by simp [gw_size]) _
        have ZtW2 := Lib.hid ((hbW2.block _ (Array.getElem?_eq_some_iff.1 Zc0.out).1).trans Zc0.out)
        have ZshW2 := Lib.hid ((hbW2.block _ (Array.getElem?_eq_some_iff.1 Zc1.out).1).trans Zc1.out)
        have ZrW2 := Lib.hid ((hbW2.block _ (Array.getElem?_eq_some_iff.1 Zc3.out).1).trans Zc3.out)
        have zsW2 : W2.heap[W1.heap.size + z2.bs.size]? = some (.cells #[.func (.func 51) #[] #[.pointer (some ⟨w.heap.size, 0, none⟩), .pointer (some ⟨w.heap.size + 1 + 1, 0, none⟩)]] 98 (0, 0)) := by rw [← hW2]; exact alloc_at (by simp [gw_size])
        have ZsW2 := Lib.hid zsW2; clear zsW2
        have HBW2 := Lib.hid (thru hbW2 HBc.out)
        have SBW2 := Lib.hid hbW2; clear hbW2
        have HWW2 := Lib.hid hW2; clear hW2
        rw [HWW2.out]
        have et0W2 : W2.cell? ⟨w.heap.size, 0, none⟩ = some (.slice t.aT t.nT t.cT) := cell_of_block ZtW2.out 0 (by simp)
        have et1W2 : W2.cell? ⟨w.heap.size, 1, none⟩ = some (.slice (some ⟨bS, oS, none⟩) t.nS t.cS) := cell_of_block ZtW2.out 1 (by simp)
        have et2W2 : W2.cell? ⟨w.heap.size, 2, none⟩ = some (.slice t.H.a t.H.n t.H.c) := cell_of_block ZtW2.out 2 (by simp)
        have et3W2 : W2.cell? ⟨w.heap.size, 3, none⟩ = some (.slice t.R.a t.R.n t.R.c) := cell_of_block ZtW2.out 3 (by simp)
        have ltW2 := (Array.getElem?_eq_some_iff.1 ZtW2.out).1
        replace x0 := below_cell SBW2.out x0
        replace xl := below_cell SBW2.out xl
        have lS2 := Nat.lt_of_lt_of_le lS SBW2.out.size
        obtain ⟨W3, hW3⟩ : ∃ W3, (W2.alloc (.cells #[.int .i64 fst] 3)).drew = W3 := ⟨_, rfl⟩
        have hB3 : Below W2.heap.size W2 W3 := by rw [← hW3]; exact below_alloc_drew _ _
        have z9 : W3.heap[W2.heap.size]? = some (.cells #[.int .i64 fst] 3 (0, 0)) := by rw [← hW3]; exact alloc_at rfl
        have q0 := below_cell hB3 x0
        have q1 := below_cell hB3 xl
        have q2 := below_cell hB3 et1W2
        have q3 := Nat.lt_of_lt_of_le lS2 hB3.size
        have q4 := Nat.lt_of_lt_of_le ltW2 hB3.size
        go_region
        clear x0 xl lS2 q0 q1 q2 q3 q4
        clear et0W2 et1W2 et2W2 et3W2
        have ZtW3 := Lib.hid ((hB3.block _ (Array.getElem?_eq_some_iff.1 ZtW2.out).1).trans ZtW2.out)
        have ZshW3 := Lib.hid ((hB3.block _ (Array.getElem?_eq_some_iff.1 ZshW2.out).1).trans ZshW2.out)
        have ZrW3 := Lib.hid ((hB3.block _ (Array.getElem?_eq_some_iff.1 ZrW2.out).1).trans ZrW2.out)
        have ZsW3 := Lib.hid ((hB3.block _ (Array.getElem?_eq_some_iff.1 ZsW2.out).1).trans ZsW2.out)
        have ZfW3 := Lib.hid z9
        have HBW3 := Lib.hid (thru hB3 HBW2.out)
        have S1W3 := Lib.hid (SBW2.out.trans (hB3.mono SBW2.out.size))
        clear hB3 z9 hW3
        have ef0W3 : W3.cell? ⟨W2.heap.size, 0, none⟩ = some (.int .i64 fst) := cell_of_block ZfW3.out 0 (by simp)
        have lfW3 := (Array.getElem?_eq_some_iff.1 ZfW3.out).1
        have es0W3 : W3.cell? ⟨W1.heap.size + z2.bs.size, 0, none⟩ = some (.func (.func 51) #[] #[.pointer (some ⟨w.heap.size, 0, none⟩), .pointer (some ⟨w.heap.size + 1 + 1, 0, none⟩)]) := cell_of_block ZsW3.out 0 (by simp)
        have lsW3 := (Array.getElem?_eq_some_iff.1 ZsW3.out).1
        have esh0W3 : W3.cell? ⟨w.heap.size + 1, 0, none⟩ = some (.int .i64 lo) := cell_of_block ZshW3.out 0 (by simp)
        have esh1W3 : W3.cell? ⟨w.heap.size + 1, 1, none⟩ = some (.int .i64 hi) := cell_of_block ZshW3.out 1 (by simp)
        have lshW3 := (Array.getElem?_eq_some_iff.1 ZshW3.out).1
        have SF := fun z => search_any 54 #[.pointer (some ⟨W1.heap.size + z2.bs.size, 0, none⟩), .pointer (some ⟨W2.heap.size, 0, none⟩), .pointer (some ⟨w.heap.size + 1, 0, none⟩)] (enters_of Tryz.func54 (by kernel_rfl) rfl) (t.tb.frB lo tlo thi) t.tb.cnt (by have := EC.out; omega) MF.out (gw W3 z)
          (fun W i hb hq => from1_any t GD.out w.heap.size (w.heap.size + 1 + 1) _ _ _ tlo thi lo i W (SA.out W (S1W3.out.trans ((thru hb (below_gw W3 z)).mono S1W3.out.size))) FT.out hq (below_cell (thru hb (below_gw W3 z)) es0W3) (by rw [HFS.out]; exact below_cell (thru hb (below_gw W3 z)) ef0W3) (below_cell (thru hb (below_gw W3 z)) esh0W3))
        have SPA := fun z => search_any 56 #[.pointer (some ⟨W1.heap.size + z2.bs.size, 0, none⟩), .pointer (some ⟨W2.heap.size, 0, none⟩), .pointer (some ⟨w.heap.size + 1, 0, none⟩)] (enters_of Tryz.func56 (by kernel_rfl) rfl) (t.tb.paB hi tlo thi) t.tb.cnt (by have := EC.out; omega) MP.out (gw W3 z)
          (fun W i hb hq => past1_any t GD.out w.heap.size (w.heap.size + 1 + 1) _ _ _ tlo thi hi i W (SA.out W (S1W3.out.trans ((thru hb (below_gw W3 z)).mono S1W3.out.size))) FT.out hq (below_cell (thru hb (below_gw W3 z)) es0W3) (by rw [HFS.out]; exact below_cell (thru hb (below_gw W3 z)) ef0W3) (below_cell (thru hb (below_gw W3 z)) esh1W3))
        have FRV := Lib.hid (show okN (fun i => !t.tb.frB lo tlo thi i) t.tb.cnt = t.tb.frN lo tlo thi from rfl)
        have PAV := Lib.hid (show okN (fun i => !t.tb.paB hi tlo thi i) t.tb.cnt = t.tb.paN hi tlo thi from rfl)
        simp only [FRV.out, EC.out] at SF
        simp only [PAV.out, EC.out] at SPA
        have fle := Tb.frN_le (t := t.tb) (lo := lo) (tlo := tlo) (thi := thi)
        have ple := Tb.paN_le (t := t.tb) (hi := hi) (tlo := tlo) (thi := thi)
        have FRA := Lib.hid (show t.tb.from_ lo tlo thi = t.tb.first + t.tb.frN lo tlo thi from rfl)
        have PAA := Lib.hid (show t.tb.past hi tlo thi = t.tb.first + t.tb.paN hi tlo thi from rfl)
        have NBV := Lib.hid (show t.tb.noneB lo hi tlo thi = (decide (t.tb.cnt ≤ t.tb.frN lo tlo thi) || decide (t.tb.paN hi tlo thi = 0)) from rfl)
        rw [HFS.out] at FRA PAA
        generalize t.tb.frN lo tlo thi = a at *
        generalize t.tb.paN hi tlo thi = b at *
        have fle2 : (a : Int) ≤ lst - fst + 1 := by have := EC.out; omega
        have ple2 : (b : Int) ≤ lst - fst + 1 := by have := EC.out; omega
        clear fle ple
        have HSF := Lib.hid SF; have HSP := Lib.hid SPA; clear SF SPA
        go_wp2_with fail
        refine wp_region_gw (by kernel_rfl) (by kernel_rfl) ?_
        repeat (go_big_quiet_step ((go_at_call 53; exact Calls.gw_of (HSF.out _))))
        refine wpQuiet_nil ?_
        rintro _ ⟨y1, rfl⟩
        go_wp2_with fail
        refine wp_region_gw2 (by kernel_rfl) (by kernel_rfl) ?_
        repeat (go_big_quiet_step ((go_at_call 53; exact Calls.gw_of (HSP.out _))))
        refine wpQuiet_nil ?_
        rintro _ ⟨y2, rfl⟩
        obtain ⟨A, hA⟩ : ∃ A, fst + (a : Int) = A := ⟨_, rfl⟩
        obtain ⟨P, hP⟩ : ∃ P, fst + (b : Int) = P := ⟨_, rfl⟩
        rw [hA] at FRA ⊢
        rw [hP] at PAA ⊢
        have nb1 : t.tb.noneB lo hi tlo thi = true ↔ lst < A ∨ P = fst := by rw [NBV.out]; have := EC.out; simp; omega
        have a0 : fst ≤ A := by omega
        have p0 : fst ≤ P := by omega
        have p1 : P ≤ lst + 1 := by omega
        have a1 : A ≤ 10001 := by omega
        have p2 : P ≤ 10001 := by omega
        have b9 : 0 ≤ fst := b0.1
        have bl2 := bl'.2
        have NB := Lib.hid nb1
        clear nb1 NBV hA hP FRV PAV HSF HSP fle2 ple2 b0 bl'
        by_cases c1 : lst < A
        · as_aux_lemma =>
          have nn := NB.out.2 (.inl c1)
          have e0 := ESN.out nn
          obtain ⟨e1, e2⟩ := Tab.str_zero (t := t) (lo := lo) (hi := hi) (tlo := tlo) (thi := thi) (by rw [e0]; decide)
          have E0 := Lib.hid e0; have E1 := Lib.hid e1; have E2 := Lib.hid e2
          clear nn e0 e1 e2
          have er0W3 : W3.cell? ⟨w.heap.size + 1 + 1 + 1, 0, none⟩ = some (.int .i64 0) := cell_of_block ZrW3.out 0 (by simp)
          have fr0W3 := frozen_of_block ZrW3.out 0
          have er1W3 : W3.cell? ⟨w.heap.size + 1 + 1 + 1, 1, none⟩ = some (.int .i64 0) := cell_of_block ZrW3.out 1 (by simp)
          have fr1W3 := frozen_of_block ZrW3.out 1
          have lrW3 := (Array.getElem?_eq_some_iff.1 ZrW3.out).1
          go_wp2_with fail
          refine bodyPost_ret (v := .tuple #[.agg #[.int .i64 0, .int .i64 0], .int .i64 4]) (by simp [results, Tryz.results33, go_sem, *]) rfl ⟨by rw [E0.out, E1.out, E2.out], ?_⟩
          exact ((HBW3.out.gw y2).setCell (by simp <;> omega) _).setCell (by simp <;> omega) _
        · by_cases c2 : P = fst
          · as_aux_lemma =>
            have nn := NB.out.2 (.inr c2)
            have e0 := ESN.out nn
            obtain ⟨e1, e2⟩ := Tab.str_zero (t := t) (lo := lo) (hi := hi) (tlo := tlo) (thi := thi) (by rw [e0]; decide)
            have E0 := Lib.hid e0; have E1 := Lib.hid e1; have E2 := Lib.hid e2
            clear nn e0 e1 e2
            subst c2
            have er0W3 : W3.cell? ⟨w.heap.size + 1 + 1 + 1, 0, none⟩ = some (.int .i64 0) := cell_of_block ZrW3.out 0 (by simp)
            have fr0W3 := frozen_of_block ZrW3.out 0
            have er1W3 : W3.cell? ⟨w.heap.size + 1 + 1 + 1, 1, none⟩ = some (.int .i64 0) := cell_of_block ZrW3.out 1 (by simp)
            have fr1W3 := frozen_of_block ZrW3.out 1
            have lrW3 := (Array.getElem?_eq_some_iff.1 ZrW3.out).1
            go_wp2_with fail
            refine bodyPost_ret (v := .tuple #[.agg #[.int .i64 0, .int .i64 0], .int .i64 4]) (by simp [results, Tryz.results33, go_sem, *]) rfl ⟨by rw [E0.out, E1.out, E2.out], ?_⟩
            exact ((HBW3.out.gw y2).setCell (by simp <;> omega) _).setCell (by simp <;> omega) _
          · as_aux_lemma =>
            have nn : t.tb.noneB lo hi tlo thi = false := by cases h : t.tb.noneB lo hi tlo thi with | false => rfl | true => exact absurd (NB.out.1 h) (by omega)
            have e0 := ESO.out nn
            have e1 : t.strL lo hi tlo thi = t.tb.strLo lo tlo thi := if_pos e0
            have e2 : t.strH lo hi tlo thi = t.tb.strHi hi tlo thi := if_pos e0
            have E0 := Lib.hid e0; have E1 := Lib.hid e1; have E2 := Lib.hid e2
            have SL := Lib.hid (show t.tb.strLo lo tlo thi = if t.tb.first < t.tb.from_ lo tlo thi ∧ ¬ (t.tb.seeH tlo thi (t.tb.from_ lo tlo thi)).n = lo * (t.tb.seeH tlo thi (t.tb.from_ lo tlo thi)).d then t.tb.from_ lo tlo thi - 1 else t.tb.from_ lo tlo thi from rfl)
            have SH := Lib.hid (show t.tb.strHi hi tlo thi = if t.tb.past hi tlo thi - 1 < t.tb.last ∧ ¬ (t.tb.seeL tlo thi (t.tb.past hi tlo thi - 1)).n = hi * (t.tb.seeL tlo thi (t.tb.past hi tlo thi - 1)).d then t.tb.past hi tlo thi else t.tb.past hi tlo thi - 1 from rfl)
            have g := GD.out
            have ft := FT.out
            have rH := g.rowsH (SA.out W3 S1W3.out).i
            have LS := fun h => lo_small (lo := lo) (hi := hi) g ft nn h
            have HS := fun h => hi_small (lo := lo) (hi := hi) g ft nn h
            have FA : (t.tb.seeH tlo thi A).Fit := high_fit g rH ft (fit_one (by rw [HFS.out]; exact a0) (by rw [HLS.out]; omega))
            have FP : (t.tb.seeL tlo thi (P - 1)).Fit := low_fit g rH ft (fit_one (by rw [HFS.out]; omega) (by rw [HLS.out]; omega))
            have C1 := Lib.hid (fun W (hb : Below W3.heap.size W3 W) => sees_any t g w.heap.size (w.heap.size + 1 + 1) tlo thi A W (SA.out W (S1W3.out.trans (hb.mono S1W3.out.size))) ft (by rw [HFS.out]; exact a0) (by rw [HLS.out]; omega))
            have C2 := Lib.hid (fun W (hb : Below W3.heap.size W3 W) => sees_any t g w.heap.size (w.heap.size + 1 + 1) tlo thi (P - 1) W (SA.out W (S1W3.out.trans (hb.mono S1W3.out.size))) ft (by rw [HFS.out]; omega) (by rw [HLS.out]; omega))
            rw [FRA.out, HFS.out] at SL LS
            rw [PAA.out, HLS.out] at SH HS
            clear nn e0 e1 e2 g ft rH
            generalize t.tb.seeH tlo thi A = hA at *
            generalize t.tb.seeL tlo thi (P - 1) = lP at *
            generalize t.tb.seeL tlo thi A = lA at *
            generalize t.tb.seeH tlo thi (P - 1) = hP at *
            obtain ⟨fa1, fa2, fa3, fa4⟩ := FA
            obtain ⟨fp1, fp2, fp3, fp4⟩ := FP
            unfold Fr.val at C1 C2
            go_upto_region 13 with (fail)
            obtain ⟨W4, hW4⟩ : ∃ W4, ((gw W3 y2)).alloc (.cells #[.int .i64 A, .int .i64 (P - 1)] 27) = W4 := ⟨_, rfl⟩
            have hbW4 : Below W3.heap.size W3 W4 := by rw [← hW4]; exact (below_gw W3 y2).alloc (by simp [gw_size]) _
            have ZtW4 := Lib.hid ((hbW4.block _ (Array.getElem?_eq_some_iff.1 ZtW3.out).1).trans ZtW3.out)
            have ZshW4 := Lib.hid ((hbW4.block _ (Array.getElem?_eq_some_iff.1 ZshW3.out).1).trans ZshW3.out)
            have ZrW4 := Lib.hid ((hbW4.block _ (Array.getElem?_eq_some_iff.1 ZrW3.out).1).trans ZrW3.out)
            have ZsW4 := Lib.hid ((hbW4.block _ (Array.getElem?_eq_some_iff.1 ZsW3.out).1).trans ZsW3.out)
            have ZfW4 := Lib.hid ((hbW4.block _ (Array.getElem?_eq_some_iff.1 ZfW3.out).1).trans ZfW3.out)
            have zoW4 : W4.heap[W3.heap.size + y2.bs.size]? = some (.cells #[.int .i64 A, .int .i64 (P - 1)] 27 (0, 0)) := by rw [← hW4]; exact alloc_at (by simp [gw_size])
            have ZoW4 := Lib.hid zoW4; clear zoW4
            have HBW4 := Lib.hid (thru hbW4 HBW3.out)
            have SBW4 := Lib.hid hbW4; clear hbW4
            have HWW4 := Lib.hid hW4; clear hW4
            rw [HWW4.out]
            have ef0W4 : W4.cell? ⟨W2.heap.size, 0, none⟩ = some (.int .i64 fst) := cell_of_block ZfW4.out 0 (by simp)
            have lfW4 := (Array.getElem?_eq_some_iff.1 ZfW4.out).1
            have es0W4 : W4.cell? ⟨W1.heap.size + z2.bs.size, 0, none⟩ = some (.func (.func 51) #[] #[.pointer (some ⟨w.heap.size, 0, none⟩), .pointer (some ⟨w.heap.size + 1 + 1, 0, none⟩)]) := cell_of_block ZsW4.out 0 (by simp)
            have lsW4 := (Array.getElem?_eq_some_iff.1 ZsW4.out).1
            go_wp2_with fail
            refine (Calls.grown (C1.out _ (SBW4.out))).mono ?_
            rintro e w1 ⟨rfl, z3, rfl⟩
            clear ef0W4 es0W4
            have SSW4 := Lib.hid (SBW4.out)
            go_upto_region 14 with (fail)
            obtain ⟨W5, hW5⟩ : ∃ W5, (((gw W4 z3)).alloc (.cells #[.int .i64 lA.n, .int .i64 lA.d] 95)).alloc (.cells #[.int .i64 hA.n, .int .i64 hA.d] 95) = W5 := ⟨_, rfl⟩
            have hbW5 : Below W4.heap.size W4 W5 := by rw [← hW5]; exact ((below_gw W4 z3).alloc (by simp [gw_size]) _).alloc (by simp [gw_size] <;> omega) _
            have ZtW5 := Lib.hid ((hbW5.block _ (Array.getElem?_eq_some_iff.1 ZtW4.out).1).trans ZtW4.out)
            have ZshW5 := Lib.hid ((hbW5.block _ (Array.getElem?_eq_some_iff.1 ZshW4.out).1).trans ZshW4.out)
            have ZrW5 := Lib.hid ((hbW5.block _ (Array.getElem?_eq_some_iff.1 ZrW4.out).1).trans ZrW4.out)
            have ZsW5 := Lib.hid ((hbW5.block _ (Array.getElem?_eq_some_iff.1 ZsW4.out).1).trans ZsW4.out)
            have ZfW5 := Lib.hid ((hbW5.block _ (Array.getElem?_eq_some_iff.1 ZfW4.out).1).trans ZfW4.out)
            have ZoW5 := Lib.hid ((hbW5.block _ (Array.getElem?_eq_some_iff.1 ZoW4.out).1).trans ZoW4.out)
            have zl1W5 : W5.heap[W4.heap.size + z3.bs.size]? = some (.cells #[.int .i64 lA.n, .int .i64 lA.d] 95 (0, 0)) := by rw [← hW5]; exact alloc_keep (alloc_at (by simp [gw_size]))
            have Zl1W5 := Lib.hid zl1W5; clear zl1W5
            have zh1W5 : W5.heap[W4.heap.size + z3.bs.size + 1]? = some (.cells #[.int .i64 hA.n, .int .i64 hA.d] 95 (0, 0)) := by rw [← hW5]; exact alloc_at (by simp [gw_size] <;> omega)
            have Zh1W5 := Lib.hid zh1W5; clear zh1W5
            have HBW5 := Lib.hid (thru hbW5 HBW4.out)
            have SBW5 := Lib.hid hbW5; clear hbW5
            have HWW5 := Lib.hid hW5; clear hW5
            rw [HWW5.out]
            have SSW5 := Lib.hid ((SSW4.out).trans (SBW5.out.mono (SSW4.out).size))
            by_cases j1 : fst < A
            · as_aux_lemma =>
              have hb := LS j1
              have m1 := mul_bd (X := 100000000) (Y := 20000) (show 0 ≤ hA.d by omega) fa2 (by omega) hb.1 hb.2
              rw [Int.mul_comm hA.d lo] at m1
              by_cases j2 : hA.n = lo * hA.d
              · as_aux_lemma =>
                have j3 : (hA.n == lo * hA.d) = true := by simpa using j2
                have HJ2 := Lib.hid j2; clear j2
                have ef0W5 : W5.cell? ⟨W2.heap.size, 0, none⟩ = some (.int .i64 fst) := cell_of_block ZfW5.out 0 (by simp)
                have lfW5 := (Array.getElem?_eq_some_iff.1 ZfW5.out).1
                have esh0W5 : W5.cell? ⟨w.heap.size + 1, 0, none⟩ = some (.int .i64 lo) := cell_of_block ZshW5.out 0 (by simp)
                have esh1W5 : W5.cell? ⟨w.heap.size + 1, 1, none⟩ = some (.int .i64 hi) := cell_of_block ZshW5.out 1 (by simp)
                have lshW5 := (Array.getElem?_eq_some_iff.1 ZshW5.out).1
                have eh10W5 : W5.cell? ⟨W4.heap.size + z3.bs.size + 1, 0, none⟩ = some (.int .i64 hA.n) := cell_of_block Zh1W5.out 0 (by simp)
                have eh11W5 : W5.cell? ⟨W4.heap.size + z3.bs.size + 1, 1, none⟩ = some (.int .i64 hA.d) := cell_of_block Zh1W5.out 1 (by simp)
                have lh1W5 := (Array.getElem?_eq_some_iff.1 Zh1W5.out).1
                go_upto_region 16 with (fail)
                clear ef0W5 esh0W5 esh1W5 eh10W5 eh11W5
                have es0W5 : W5.cell? ⟨W1.heap.size + z2.bs.size, 0, none⟩ = some (.func (.func 51) #[] #[.pointer (some ⟨w.heap.size, 0, none⟩), .pointer (some ⟨w.heap.size + 1 + 1, 0, none⟩)]) := cell_of_block ZsW5.out 0 (by simp)
                have lsW5 := (Array.getElem?_eq_some_iff.1 ZsW5.out).1
                have eo0W5 : W5.cell? ⟨W3.heap.size + y2.bs.size, 0, none⟩ = some (.int .i64 A) := cell_of_block ZoW5.out 0 (by simp)
                have eo1W5 : W5.cell? ⟨W3.heap.size + y2.bs.size, 1, none⟩ = some (.int .i64 (P - 1)) := cell_of_block ZoW5.out 1 (by simp)
                have loW5 := (Array.getElem?_eq_some_iff.1 ZoW5.out).1
                go_wp2_with fail
                refine (Calls.grown (C2.out _ (SSW5.out))).mono ?_
                rintro e w1 ⟨rfl, z4, rfl⟩
                clear es0W5 eo0W5 eo1W5
                go_upto_region 17 with (fail)
                obtain ⟨W6, hW6⟩ : ∃ W6, (((gw W5 z4)).alloc (.cells #[.int .i64 lP.n, .int .i64 lP.d] 95)).alloc (.cells #[.int .i64 hP.n, .int .i64 hP.d] 95) = W6 := ⟨_, rfl⟩
                have hbW6 : Below W5.heap.size W5 W6 := by rw [← hW6]; exact ((below_gw W5 z4).alloc (by simp [gw_size]) _).alloc (by simp [gw_size] <;> omega) _
                have ZtW6 := Lib.hid ((hbW6.block _ (Array.getElem?_eq_some_iff.1 ZtW5.out).1).trans ZtW5.out)
                have ZshW6 := Lib.hid ((hbW6.block _ (Array.getElem?_eq_some_iff.1 ZshW5.out).1).trans ZshW5.out)
                have ZrW6 := Lib.hid ((hbW6.block _ (Array.getElem?_eq_some_iff.1 ZrW5.out).1).trans ZrW5.out)
                have ZsW6 := Lib.hid ((hbW6.block _ (Array.getElem?_eq_some_iff.1 ZsW5.out).1).trans ZsW5.out)
                have ZfW6 := Lib.hid ((hbW6.block _ (Array.getElem?_eq_some_iff.1 ZfW5.out).1).trans ZfW5.out)
                have ZoW6 := Lib.hid ((hbW6.block _ (Array.getElem?_eq_some_iff.1 ZoW5.out).1).trans ZoW5.out)
                have Zl1W6 := Lib.hid ((hbW6.block _ (Array.getElem?_eq_some_iff.1 Zl1W5.out).1).trans Zl1W5.out)
                have Zh1W6 := Lib.hid ((hbW6.block _ (Array.getElem?_eq_some_iff.1 Zh1W5.out).1).trans Zh1W5.out)
                have zl2W6 : W6.heap[W5.heap.size + z4.bs.size]? = some (.cells #[.int .i64 lP.n, .int .i64 lP.d] 95 (0, 0)) := by rw [← hW6]; exact alloc_keep (alloc_at (by simp [gw_size]))
                have Zl2W6 := Lib.hid zl2W6; clear zl2W6
                have zh2W6 : W6.heap[W5.heap.size + z4.bs.size + 1]? = some (.cells #[.int .i64 hP.n, .int .i64 hP.d] 95 (0, 0)) := by rw [← hW6]; exact alloc_at (by simp [gw_size] <;> omega)
                have Zh2W6 := Lib.hid zh2W6; clear zh2W6
                have HBW6 := Lib.hid (thru hbW6 HBW5.out)
                have SBW6 := Lib.hid hbW6; clear hbW6
                have HWW6 := Lib.hid hW6; clear hW6
                rw [HWW6.out]
                have SSW6 := Lib.hid ((SSW5.out).trans (SBW6.out.mono (SSW5.out).size))
                by_cases k1 : P - 1 < lst
                · as_aux_lemma =>
                  have hb := HS k1
                  have m1 := mul_bd (X := 100000000) (Y := 20000) (show 0 ≤ lP.d by omega) fp2 (by omega) hb.1 hb.2
                  rw [Int.mul_comm lP.d hi] at m1
                  by_cases k2 : lP.n = hi * lP.d
                  · as_aux_lemma =>
                    have k3 : (lP.n == hi * lP.d) = true := by simpa using k2
                    have HK2 := Lib.hid k2; clear k2
                    have eo0W6 : W6.cell? ⟨W3.heap.size + y2.bs.size, 0, none⟩ = some (.int .i64 A) := cell_of_block ZoW6.out 0 (by simp)
                    have eo1W6 : W6.cell? ⟨W3.heap.size + y2.bs.size, 1, none⟩ = some (.int .i64 (P - 1)) := cell_of_block ZoW6.out 1 (by simp)
                    have loW6 := (Array.getElem?_eq_some_iff.1 ZoW6.out).1
                    have esh0W6 : W6.cell? ⟨w.heap.size + 1, 0, none⟩ = some (.int .i64 lo) := cell_of_block ZshW6.out 0 (by simp)
                    have esh1W6 : W6.cell? ⟨w.heap.size + 1, 1, none⟩ = some (.int .i64 hi) := cell_of_block ZshW6.out 1 (by simp)
                    have lshW6 := (Array.getElem?_eq_some_iff.1 ZshW6.out).1
                    have el20W6 : W6.cell? ⟨W5.heap.size + z4.bs.size, 0, none⟩ = some (.int .i64 lP.n) := cell_of_block Zl2W6.out 0 (by simp)
                    have el21W6 : W6.cell? ⟨W5.heap.size + z4.bs.size, 1, none⟩ = some (.int .i64 lP.d) := cell_of_block Zl2W6.out 1 (by simp)
                    have ll2W6 := (Array.getElem?_eq_some_iff.1 Zl2W6.out).1
                    have er0W6 : W6.cell? ⟨w.heap.size + 1 + 1 + 1, 0, none⟩ = some (.int .i64 0) := cell_of_block ZrW6.out 0 (by simp)
                    have fr0W6 := frozen_of_block ZrW6.out 0
                    have er1W6 : W6.cell? ⟨w.heap.size + 1 + 1 + 1, 1, none⟩ = some (.int .i64 0) := cell_of_block ZrW6.out 1 (by simp)
                    have fr1W6 := frozen_of_block ZrW6.out 1
                    have lrW6 := (Array.getElem?_eq_some_iff.1 ZrW6.out).1
                    go_wp2_with fail
                    refine bodyPost_ret (v := .tuple #[.agg #[.int .i64 (A), .int .i64 (P - 1)], .int .i64 0]) (by simp [results, Tryz.results33, go_sem, *]) rfl ⟨?_, ?_⟩
                    · rw [E0.out, E1.out, E2.out, SL.out, SH.out, if_neg (fun h => h.2 HJ2.out), if_neg (fun h => h.2 HK2.out)]
                    · exact ((HBW6.out).setCell (by simp <;> omega) _).setCell (by simp <;> omega) _
                  · as_aux_lemma =>
                    have k3 : (lP.n == hi * lP.d) = false := by simpa using k2
                    have HK2 := Lib.hid k2; clear k2
                    have eo0W6 : W6.cell? ⟨W3.heap.size + y2.bs.size, 0, none⟩ = some (.int .i64 A) := cell_of_block ZoW6.out 0 (by simp)
                    have fo0W6 := frozen_of_block ZoW6.out 0
                    have eo1W6 : W6.cell? ⟨W3.heap.size + y2.bs.size, 1, none⟩ = some (.int .i64 (P - 1)) := cell_of_block ZoW6.out 1 (by simp)
                    have fo1W6 := frozen_of_block ZoW6.out 1
                    have loW6 := (Array.getElem?_eq_some_iff.1 ZoW6.out).1
                    have esh0W6 : W6.cell? ⟨w.heap.size + 1, 0, none⟩ = some (.int .i64 lo) := cell_of_block ZshW6.out 0 (by simp)
                    have esh1W6 : W6.cell? ⟨w.heap.size + 1, 1, none⟩ = some (.int .i64 hi) := cell_of_block ZshW6.out 1 (by simp)
                    have lshW6 := (Array.getElem?_eq_some_iff.1 ZshW6.out).1
                    have el20W6 : W6.cell? ⟨W5.heap.size + z4.bs.size, 0, none⟩ = some (.int .i64 lP.n) := cell_of_block Zl2W6.out 0 (by simp)
                    have el21W6 : W6.cell? ⟨W5.heap.size + z4.bs.size, 1, none⟩ = some (.int .i64 lP.d) := cell_of_block Zl2W6.out 1 (by simp)
                    have ll2W6 := (Array.getElem?_eq_some_iff.1 Zl2W6.out).1
                    have er0W6 : W6.cell? ⟨w.heap.size + 1 + 1 + 1, 0, none⟩ = some (.int .i64 0) := cell_of_block ZrW6.out 0 (by simp)
                    have fr0W6 := frozen_of_block ZrW6.out 0
                    have er1W6 : W6.cell? ⟨w.heap.size + 1 + 1 + 1, 1, none⟩ = some (.int .i64 0) := cell_of_block ZrW6.out 1 (by simp)
                    have fr1W6 := frozen_of_block ZrW6.out 1
                    have lrW6 := (Array.getElem?_eq_some_iff.1 ZrW6.out).1
                    go_wp2_with fail
                    refine bodyPost_ret (v := .tuple #[.agg #[.int .i64 (A), .int .i64 (P - 1 + 1)], .int .i64 0]) (by simp [results, Tryz.results33, go_sem, *]) rfl ⟨?_, ?_⟩
                    · rw [E0.out, E1.out, E2.out, SL.out, SH.out, if_neg (fun h => h.2 HJ2.out), if_pos ⟨k1, HK2.out⟩]; rw [show P - 1 + 1 = P by omega]
                    · exact (((HBW6.out).setCell (by simp <;> omega) _).setCell (by simp <;> omega) _).setCell (by simp <;> omega) _
                · as_aux_lemma =>
                  have k4 : P - 1 = lst := by omega
                  have HK1 := Lib.hid k1; clear k1
                  have eo0W6 : W6.cell? ⟨W3.heap.size + y2.bs.size, 0, none⟩ = some (.int .i64 A) := cell_of_block ZoW6.out 0 (by simp)
                  have eo1W6 : W6.cell? ⟨W3.heap.size + y2.bs.size, 1, none⟩ = some (.int .i64 (P - 1)) := cell_of_block ZoW6.out 1 (by simp)
                  have loW6 := (Array.getElem?_eq_some_iff.1 ZoW6.out).1
                  have er0W6 : W6.cell? ⟨w.heap.size + 1 + 1 + 1, 0, none⟩ = some (.int .i64 0) := cell_of_block ZrW6.out 0 (by simp)
                  have fr0W6 := frozen_of_block ZrW6.out 0
                  have er1W6 : W6.cell? ⟨w.heap.size + 1 + 1 + 1, 1, none⟩ = some (.int .i64 0) := cell_of_block ZrW6.out 1 (by simp)
                  have fr1W6 := frozen_of_block ZrW6.out 1
                  have lrW6 := (Array.getElem?_eq_some_iff.1 ZrW6.out).1
                  go_wp2_with fail
                  refine bodyPost_ret (v := .tuple #[.agg #[.int .i64 (A), .int .i64 (P - 1)], .int .i64 0]) (by simp [results, Tryz.results33, go_sem, *]) rfl ⟨?_, ?_⟩
                  · rw [E0.out, E1.out, E2.out, SL.out, SH.out, if_neg (fun h => h.2 HJ2.out), if_neg (show ¬ (P - 1 < lst ∧ ¬ lP.n = hi * lP.d) from fun h => by have h1 := h.1; have := HK1.out; omega)]
                  · exact ((HBW6.out).setCell (by simp <;> omega) _).setCell (by simp <;> omega) _
              · as_aux_lemma =>
                have j3 : (hA.n == lo * hA.d) = false := by simpa using j2
                have HJ2 := Lib.hid j2; clear j2
                have ef0W5 : W5.cell? ⟨W2.heap.size, 0, none⟩ = some (.int .i64 fst) := cell_of_block ZfW5.out 0 (by simp)
                have lfW5 := (Array.getElem?_eq_some_iff.1 ZfW5.out).1
                have esh0W5 : W5.cell? ⟨w.heap.size + 1, 0, none⟩ = some (.int .i64 lo) := cell_of_block ZshW5.out 0 (by simp)
                have esh1W5 : W5.cell? ⟨w.heap.size + 1, 1, none⟩ = some (.int .i64 hi) := cell_of_block ZshW5.out 1 (by simp)
                have lshW5 := (Array.getElem?_eq_some_iff.1 ZshW5.out).1
                have eh10W5 : W5.cell? ⟨W4.heap.size + z3.bs.size + 1, 0, none⟩ = some (.int .i64 hA.n) := cell_of_block Zh1W5.out 0 (by simp)
                have eh11W5 : W5.cell? ⟨W4.heap.size + z3.bs.size + 1, 1, none⟩ = some (.int .i64 hA.d) := cell_of_block Zh1W5.out 1 (by simp)
                have lh1W5 := (Array.getElem?_eq_some_iff.1 Zh1W5.out).1
                have eo0W5 : W5.cell? ⟨W3.heap.size + y2.bs.size, 0, none⟩ = some (.int .i64 A) := cell_of_block ZoW5.out 0 (by simp)
                have fo0W5 := frozen_of_block ZoW5.out 0
                have eo1W5 : W5.cell? ⟨W3.heap.size + y2.bs.size, 1, none⟩ = some (.int .i64 (P - 1)) := cell_of_block ZoW5.out 1 (by simp)
                have fo1W5 := frozen_of_block ZoW5.out 1
                have loW5 := (Array.getElem?_eq_some_iff.1 ZoW5.out).1
                go_upto_region 16 with (fail)
                clear ef0W5 esh0W5 esh1W5 eh10W5 eh11W5 eo0W5 eo1W5 fo0W5 fo1W5
                obtain ⟨V6, hV6⟩ : ∃ V6, W5.setCell ⟨W3.heap.size + y2.bs.size, 0, none⟩ (.int .i64 (A - 1)) = V6 := ⟨_, rfl⟩
                have ZtV6 := Lib.hid (show V6.heap[w.heap.size]? = some (.cells #[.slice t.aT t.nT t.cT, .slice (some ⟨bS, oS, none⟩) t.nS t.cS, .slice t.H.a t.H.n t.H.c, .slice t.R.a t.R.n t.R.c] 25 (0, 0)) by rw [← hV6]; exact (Below.heap_setCell _ _ _ _ (by simp <;> omega)).trans ZtW5.out)
                have ZshV6 := Lib.hid (show V6.heap[w.heap.size + 1]? = some (.cells #[.int .i64 lo, .int .i64 hi] 27 (0, 0)) by rw [← hV6]; exact (Below.heap_setCell _ _ _ _ (by simp <;> omega)).trans ZshW5.out)
                have ZrV6 := Lib.hid (show V6.heap[w.heap.size + 1 + 1 + 1]? = some (.cells #[.int .i64 0, .int .i64 0] 27 (0, 0)) by rw [← hV6]; exact (Below.heap_setCell _ _ _ _ (by simp <;> omega)).trans ZrW5.out)
                have ZsV6 := Lib.hid (show V6.heap[W1.heap.size + z2.bs.size]? = some (.cells #[.func (.func 51) #[] #[.pointer (some ⟨w.heap.size, 0, none⟩), .pointer (some ⟨w.heap.size + 1 + 1, 0, none⟩)]] 98 (0, 0)) by rw [← hV6]; exact (Below.heap_setCell _ _ _ _ (by simp <;> omega)).trans ZsW5.out)
                have ZfV6 := Lib.hid (show V6.heap[W2.heap.size]? = some (.cells #[.int .i64 fst] 3 (0, 0)) by rw [← hV6]; exact (Below.heap_setCell _ _ _ _ (by simp <;> omega)).trans ZfW5.out)
                have ZoV6 := Lib.hid (show V6.heap[W3.heap.size + y2.bs.size]? = some (.cells #[.int .i64 (A - 1), .int .i64 (P - 1)] 27 (0, 0)) by rw [← hV6]; exact block_set 0 (.int .i64 (A - 1)) ZoW5.out)
                have HBV6 := Lib.hid (show Below w.heap.size w V6 by rw [← hV6]; exact HBW5.out.setCell (by simp <;> omega) _)
                have SSV6 := Lib.hid (show Below W3.heap.size W3 V6 by rw [← hV6]; exact (SSW5.out).setCell (by first | omega | (simp <;> omega)) _)
                rw [hV6]
                clear hV6
                have es0V6 : V6.cell? ⟨W1.heap.size + z2.bs.size, 0, none⟩ = some (.func (.func 51) #[] #[.pointer (some ⟨w.heap.size, 0, none⟩), .pointer (some ⟨w.heap.size + 1 + 1, 0, none⟩)]) := cell_of_block ZsV6.out 0 (by simp)
                have lsV6 := (Array.getElem?_eq_some_iff.1 ZsV6.out).1
                have eo0V6 : V6.cell? ⟨W3.heap.size + y2.bs.size, 0, none⟩ = some (.int .i64 (A - 1)) := cell_of_block ZoV6.out 0 (by simp)
                have eo1V6 : V6.cell? ⟨W3.heap.size + y2.bs.size, 1, none⟩ = some (.int .i64 (P - 1)) := cell_of_block ZoV6.out 1 (by simp)
                have loV6 := (Array.getElem?_eq_some_iff.1 ZoV6.out).1
                go_wp2_with fail
                refine (Calls.grown (C2.out _ (SSV6.out))).mono ?_
                rintro e w1 ⟨rfl, z4, rfl⟩
                clear es0V6 eo0V6 eo1V6
                go_upto_region 17 with (fail)
                obtain ⟨W6, hW6⟩ : ∃ W6, (((gw V6 z4)).alloc (.cells #[.int .i64 lP.n, .int .i64 lP.d] 95)).alloc (.cells #[.int .i64 hP.n, .int .i64 hP.d] 95) = W6 := ⟨_, rfl⟩
                have hbW6 : Below V6.heap.size V6 W6 := by rw [← hW6]; exact ((below_gw V6 z4).alloc (by simp [gw_size]) _).alloc (by simp [gw_size] <;> omega) _
                have ZtW6 := Lib.hid ((hbW6.block _ (Array.getElem?_eq_some_iff.1 ZtV6.out).1).trans ZtV6.out)
                have ZshW6 := Lib.hid ((hbW6.block _ (Array.getElem?_eq_some_iff.1 ZshV6.out).1).trans ZshV6.out)
                have ZrW6 := Lib.hid ((hbW6.block _ (Array.getElem?_eq_some_iff.1 ZrV6.out).1).trans ZrV6.out)
                have ZsW6 := Lib.hid ((hbW6.block _ (Array.getElem?_eq_some_iff.1 ZsV6.out).1).trans ZsV6.out)
                have ZfW6 := Lib.hid ((hbW6.block _ (Array.getElem?_eq_some_iff.1 ZfV6.out).1).trans ZfV6.out)
                have ZoW6 := Lib.hid ((hbW6.block _ (Array.getElem?_eq_some_iff.1 ZoV6.out).1).trans ZoV6.out)
                have zl2W6 : W6.heap[V6.heap.size + z4.bs.size]? = some (.cells #[.int .i64 lP.n, .int .i64 lP.d] 95 (0, 0)) := by rw [← hW6]; exact alloc_keep (alloc_at (by simp [gw_size]))
                have Zl2W6 := Lib.hid zl2W6; clear zl2W6
                have zh2W6 : W6.heap[V6.heap.size + z4.bs.size + 1]? = some (.cells #[.int .i64 hP.n, .int .i64 hP.d] 95 (0, 0)) := by rw [← hW6]; exact alloc_at (by simp [gw_size] <;> omega)
                have Zh2W6 := Lib.hid zh2W6; clear zh2W6
                have HBW6 := Lib.hid (thru hbW6 HBV6.out)
                have SBW6 := Lib.hid hbW6; clear hbW6
                have HWW6 := Lib.hid hW6; clear hW6
                rw [HWW6.out]
                have SSW6 := Lib.hid ((SSV6.out).trans (SBW6.out.mono (SSV6.out).size))
                by_cases k1 : P - 1 < lst
                · as_aux_lemma =>
                  have hb := HS k1
                  have m1 := mul_bd (X := 100000000) (Y := 20000) (show 0 ≤ lP.d by omega) fp2 (by omega) hb.1 hb.2
                  rw [Int.mul_comm lP.d hi] at m1
                  by_cases k2 : lP.n = hi * lP.d
                  · as_aux_lemma =>
                    have k3 : (lP.n == hi * lP.d) = true := by simpa using k2
                    have HK2 := Lib.hid k2; clear k2
                    have eo0W6 : W6.cell? ⟨W3.heap.size + y2.bs.size, 0, none⟩ = some (.int .i64 (A - 1)) := cell_of_block ZoW6.out 0 (by simp)
                    have eo1W6 : W6.cell? ⟨W3.heap.size + y2.bs.size, 1, none⟩ = some (.int .i64 (P - 1)) := cell_of_block ZoW6.out 1 (by simp)
                    have loW6 := (Array.getElem?_eq_some_iff.1 ZoW6.out).1
                    have esh0W6 : W6.cell? ⟨w.heap.size + 1, 0, none⟩ = some (.int .i64 lo) := cell_of_block ZshW6.out 0 (by simp)
                    have esh1W6 : W6.cell? ⟨w.heap.size + 1, 1, none⟩ = some (.int .i64 hi) := cell_of_block ZshW6.out 1 (by simp)
                    have lshW6 := (Array.getElem?_eq_some_iff.1 ZshW6.out).1
                    have el20W6 : W6.cell? ⟨V6.heap.size + z4.bs.size, 0, none⟩ = some (.int .i64 lP.n) := cell_of_block Zl2W6.out 0 (by simp)
                    have el21W6 : W6.cell? ⟨V6.heap.size + z4.bs.size, 1, none⟩ = some (.int .i64 lP.d) := cell_of_block Zl2W6.out 1 (by simp)
                    have ll2W6 := (Array.getElem?_eq_some_iff.1 Zl2W6.out).1
                    have er0W6 : W6.cell? ⟨w.heap.size + 1 + 1 + 1, 0, none⟩ = some (.int .i64 0) := cell_of_block ZrW6.out 0 (by simp)
                    have fr0W6 := frozen_of_block ZrW6.out 0
                    have er1W6 : W6.cell? ⟨w.heap.size + 1 + 1 + 1, 1, none⟩ = some (.int .i64 0) := cell_of_block ZrW6.out 1 (by simp)
                    have fr1W6 := frozen_of_block ZrW6.out 1
                    have lrW6 := (Array.getElem?_eq_some_iff.1 ZrW6.out).1
                    go_wp2_with fail
                    refine bodyPost_ret (v := .tuple #[.agg #[.int .i64 (A - 1), .int .i64 (P - 1)], .int .i64 0]) (by simp [results, Tryz.results33, go_sem, *]) rfl ⟨?_, ?_⟩
                    · rw [E0.out, E1.out, E2.out, SL.out, SH.out, if_pos ⟨j1, HJ2.out⟩, if_neg (fun h => h.2 HK2.out)]
                    · exact ((HBW6.out).setCell (by simp <;> omega) _).setCell (by simp <;> omega) _
                  · as_aux_lemma =>
                    have k3 : (lP.n == hi * lP.d) = false := by simpa using k2
                    have HK2 := Lib.hid k2; clear k2
                    have eo0W6 : W6.cell? ⟨W3.heap.size + y2.bs.size, 0, none⟩ = some (.int .i64 (A - 1)) := cell_of_block ZoW6.out 0 (by simp)
                    have fo0W6 := frozen_of_block ZoW6.out 0
                    have eo1W6 : W6.cell? ⟨W3.heap.size + y2.bs.size, 1, none⟩ = some (.int .i64 (P - 1)) := cell_of_block ZoW6.out 1 (by simp)
                    have fo1W6 := frozen_of_block ZoW6.out 1
                    have loW6 := (Array.getElem?_eq_some_iff.1 ZoW6.out).1
                    have esh0W6 : W6.cell? ⟨w.heap.size + 1, 0, none⟩ = some (.int .i64 lo) := cell_of_block ZshW6.out 0 (by simp)
                    have esh1W6 : W6.cell? ⟨w.heap.size + 1, 1, none⟩ = some (.int .i64 hi) := cell_of_block ZshW6.out 1 (by simp)
                    have lshW6 := (Array.getElem?_eq_some_iff.1 ZshW6.out).1
                    have el20W6 : W6.cell? ⟨V6.heap.size + z4.bs.size, 0, none⟩ = some (.int .i64 lP.n) := cell_of_block Zl2W6.out 0 (by simp)
                    have el21W6 : W6.cell? ⟨V6.heap.size + z4.bs.size, 1, none⟩ = some (.int .i64 lP.d) := cell_of_block Zl2W6.out 1 (by simp)
                    have ll2W6 := (Array.getElem?_eq_some_iff.1 Zl2W6.out).1
                    have er0W6 : W6.cell? ⟨w.heap.size + 1 + 1 + 1, 0, none⟩ = some (.int .i64 0) := cell_of_block ZrW6.out 0 (by simp)
                    have fr0W6 := frozen_of_block ZrW6.out 0
                    have er1W6 : W6.cell? ⟨w.heap.size + 1 + 1 + 1, 1, none⟩ = some (.int .i64 0) := cell_of_block ZrW6.out 1 (by simp)
                    have fr1W6 := frozen_of_block ZrW6.out 1
                    have lrW6 := (Array.getElem?_eq_some_iff.1 ZrW6.out).1
                    go_wp2_with fail
                    refine bodyPost_ret (v := .tuple #[.agg #[.int .i64 (A - 1), .int .i64 (P - 1 + 1)], .int .i64 0]) (by simp [results, Tryz.results33, go_sem, *]) rfl ⟨?_, ?_⟩
                    · rw [E0.out, E1.out, E2.out, SL.out, SH.out, if_pos ⟨j1, HJ2.out⟩, if_pos ⟨k1, HK2.out⟩]; rw [show P - 1 + 1 = P by omega]
                    · exact (((HBW6.out).setCell (by simp <;> omega) _).setCell (by simp <;> omega) _).setCell (by simp <;> omega) _
                · as_aux_lemma =>
                  have k4 : P - 1 = lst := by omega
                  have HK1 := Lib.hid k1; clear k1
                  have eo0W6 : W6.cell? ⟨W3.heap.size + y2.bs.size, 0, none⟩ = some (.int .i64 (A - 1)) := cell_of_block ZoW6.out 0 (by simp)
                  have eo1W6 : W6.cell? ⟨W3.heap.size + y2.bs.size, 1, none⟩ = some (.int .i64 (P - 1)) := cell_of_block ZoW6.out 1 (by simp)
                  have loW6 := (Array.getElem?_eq_some_iff.1 ZoW6.out).1
                  have er0W6 : W6.cell? ⟨w.heap.size + 1 + 1 + 1, 0, none⟩ = some (.int .i64 0) := cell_of_block ZrW6.out 0 (by simp)
                  have fr0W6 := frozen_of_block ZrW6.out 0
                  have er1W6 : W6.cell? ⟨w.heap.size + 1 + 1 + 1, 1, none⟩ = some (.int .i64 0) := cell_of_block ZrW6.out 1 (by simp)
                  have fr1W6 := frozen_of_block ZrW6.out 1
                  have lrW6 := (Array.getElem?_eq_some_iff.1 ZrW6.out).1
                  go_wp2_with fail
                  refine bodyPost_ret (v := .tuple #[.agg #[.int .i64 (A - 1), .int .i64 (P - 1)], .int .i64 0]) (by simp [results, Tryz.results33, go_sem, *]) rfl ⟨?_, ?_⟩
                  · rw [E0.out, E1.out, E2.out, SL.out, SH.out, if_pos ⟨j1, HJ2.out⟩, if_neg (show ¬ (P - 1 < lst ∧ ¬ lP.n = hi * lP.d) from fun h => by have h1 := h.1; have := HK1.out; omega)]
                  · exact ((HBW6.out).setCell (by simp <;> omega) _).setCell (by simp <;> omega) _
            · as_aux_lemma =>
              have j4 : A = fst := by omega
              have HJ1 := Lib.hid j1; clear j1
              subst j4
              have ef0W5 : W5.cell? ⟨W2.heap.size, 0, none⟩ = some (.int .i64 A) := cell_of_block ZfW5.out 0 (by simp)
              have lfW5 := (Array.getElem?_eq_some_iff.1 ZfW5.out).1
              go_upto_region 16 with (fail)
              clear ef0W5
              have es0W5 : W5.cell? ⟨W1.heap.size + z2.bs.size, 0, none⟩ = some (.func (.func 51) #[] #[.pointer (some ⟨w.heap.size, 0, none⟩), .pointer (some ⟨w.heap.size + 1 + 1, 0, none⟩)]) := cell_of_block ZsW5.out 0 (by simp)
              have lsW5 := (Array.getElem?_eq_some_iff.1 ZsW5.out).1
              have eo0W5 : W5.cell? ⟨W3.heap.size + y2.bs.size, 0, none⟩ = some (.int .i64 A) := cell_of_block ZoW5.out 0 (by simp)
              have eo1W5 : W5.cell? ⟨W3.heap.size + y2.bs.size, 1, none⟩ = some (.int .i64 (P - 1)) := cell_of_block ZoW5.out 1 (by simp)
              have loW5 := (Array.getElem?_eq_some_iff.1 ZoW5.out).1
              go_wp2_with fail
              refine (Calls.grown (C2.out _ (SSW5.out))).mono ?_
              rintro e w1 ⟨rfl, z4, rfl⟩
              clear es0W5 eo0W5 eo1W5
              go_upto_region 17 with (fail)
              obtain ⟨W6, hW6⟩ : ∃ W6, (((gw W5 z4)).alloc (.cells #[.int .i64 lP.n, .int .i64 lP.d] 95)).alloc (.cells #[.int .i64 hP.n, .int .i64 hP.d] 95) = W6 := ⟨_, rfl⟩
              have hbW6 : Below W5.heap.size W5 W6 := by rw [← hW6]; exact ((below_gw W5 z4).alloc (by simp [gw_size]) _).alloc (by simp [gw_size] <;> omega) _
              have ZtW6 := Lib.hid ((hbW6.block _ (Array.getElem?_eq_some_iff.1 ZtW5.out).1).trans ZtW5.out)
              have ZshW6 := Lib.hid ((hbW6.block _ (Array.getElem?_eq_some_iff.1 ZshW5.out).1).trans ZshW5.out)
              have ZrW6 := Lib.hid ((hbW6.block _ (Array.getElem?_eq_some_iff.1 ZrW5.out).1).trans ZrW5.out)
              have ZsW6 := Lib.hid ((hbW6.block _ (Array.getElem?_eq_some_iff.1 ZsW5.out).1).trans ZsW5.out)
              have ZfW6 := Lib.hid ((hbW6.block _ (Array.getElem?_eq_some_iff.1 ZfW5.out).1).trans ZfW5.out)
              have ZoW6 := Lib.hid ((hbW6.block _ (Array.getElem?_eq_some_iff.1 ZoW5.out).1).trans ZoW5.out)
              have Zl1W6 := Lib.hid ((hbW6.block _ (Array.getElem?_eq_some_iff.1 Zl1W5.out).1).trans Zl1W5.out)
              have Zh1W6 := Lib.hid ((hbW6.block _ (Array.getElem?_eq_some_iff.1 Zh1W5.out).1).trans Zh1W5.out)
              have zl2W6 : W6.heap[W5.heap.size + z4.bs.size]? = some (.cells #[.int .i64 lP.n, .int .i64 lP.d] 95 (0, 0)) := by rw [← hW6]; exact alloc_keep (alloc_at (by simp [gw_size]))
              have Zl2W6 := Lib.hid zl2W6; clear zl2W6
              have zh2W6 : W6.heap[W5.heap.size + z4.bs.size + 1]? = some (.cells #[.int .i64 hP.n, .int .i64 hP.d] 95 (0, 0)) := by rw [← hW6]; exact alloc_at (by simp [gw_size] <;> omega)
              have Zh2W6 := Lib.hid zh2W6; clear zh2W6
              have HBW6 := Lib.hid (thru hbW6 HBW5.out)
              have SBW6 := Lib.hid hbW6; clear hbW6
              have HWW6 := Lib.hid hW6; clear hW6
              rw [HWW6.out]
              have SSW6 := Lib.hid ((SSW5.out).trans (SBW6.out.mono (SSW5.out).size))
              by_cases k1 : P - 1 < lst
              · as_aux_lemma =>
                have hb := HS k1
                have m1 := mul_bd (X := 100000000) (Y := 20000) (show 0 ≤ lP.d by omega) fp2 (by omega) hb.1 hb.2
                rw [Int.mul_comm lP.d hi] at m1
                by_cases k2 : lP.n = hi * lP.d
                · as_aux_lemma =>
                  have k3 : (lP.n == hi * lP.d) = true := by simpa using k2
                  have HK2 := Lib.hid k2; clear k2
                  have eo0W6 : W6.cell? ⟨W3.heap.size + y2.bs.size, 0, none⟩ = some (.int .i64 A) := cell_of_block ZoW6.out 0 (by simp)
                  have eo1W6 : W6.cell? ⟨W3.heap.size + y2.bs.size, 1, none⟩ = some (.int .i64 (P - 1)) := cell_of_block ZoW6.out 1 (by simp)
                  have loW6 := (Array.getElem?_eq_some_iff.1 ZoW6.out).1
                  have esh0W6 : W6.cell? ⟨w.heap.size + 1, 0, none⟩ = some (.int .i64 lo) := cell_of_block ZshW6.out 0 (by simp)
                  have esh1W6 : W6.cell? ⟨w.heap.size + 1, 1, none⟩ = some (.int .i64 hi) := cell_of_block ZshW6.out 1 (by simp)
                  have lshW6 := (Array.getElem?_eq_some_iff.1 ZshW6.out).1
                  have el20W6 : W6.cell? ⟨W5.heap.size + z4.bs.size, 0, none⟩ = some (.int .i64 lP.n) := cell_of_block Zl2W6.out 0 (by simp)
                  have el21W6 : W6.cell? ⟨W5.heap.size + z4.bs.size, 1, none⟩ = some (.int .i64 lP.d) := cell_of_block Zl2W6.out 1 (by simp)
                  have ll2W6 := (Array.getElem?_eq_some_iff.1 Zl2W6.out).1
                  have er0W6 : W6.cell? ⟨w.heap.size + 1 + 1 + 1, 0, none⟩ = some (.int .i64 0) := cell_of_block ZrW6.out 0 (by simp)
                  have fr0W6 := frozen_of_block ZrW6.out 0
                  have er1W6 : W6.cell? ⟨w.heap.size + 1 + 1 + 1, 1, none⟩ = some (.int .i64 0) := cell_of_block ZrW6.out 1 (by simp)
                  have fr1W6 := frozen_of_block ZrW6.out 1
                  have lrW6 := (Array.getElem?_eq_some_iff.1 ZrW6.out).1
                  go_wp2_with fail
                  refine bodyPost_ret (v := .tuple #[.agg #[.int .i64 (A), .int .i64 (P - 1)], .int .i64 0]) (by simp [results, Tryz.results33, go_sem, *]) rfl ⟨?_, ?_⟩
                  · rw [E0.out, E1.out, E2.out, SL.out, SH.out, if_neg (show ¬ (A < A ∧ ¬ hA.n = lo * hA.d) from fun h => by have h1 := h.1; omega), if_neg (fun h => h.2 HK2.out)]
                  · exact ((HBW6.out).setCell (by simp <;> omega) _).setCell (by simp <;> omega) _
                · as_aux_lemma =>
                  have k3 : (lP.n == hi * lP.d) = false := by simpa using k2
                  have HK2 := Lib.hid k2; clear k2
                  have eo0W6 : W6.cell? ⟨W3.heap.size + y2.bs.size, 0, none⟩ = some (.int .i64 A) := cell_of_block ZoW6.out 0 (by simp)
                  have fo0W6 := frozen_of_block ZoW6.out 0
                  have eo1W6 : W6.cell? ⟨W3.heap.size + y2.bs.size, 1, none⟩ = some (.int .i64 (P - 1)) := cell_of_block ZoW6.out 1 (by simp)
                  have fo1W6 := frozen_of_block ZoW6.out 1
                  have loW6 := (Array.getElem?_eq_some_iff.1 ZoW6.out).1
                  have esh0W6 : W6.cell? ⟨w.heap.size + 1, 0, none⟩ = some (.int .i64 lo) := cell_of_block ZshW6.out 0 (by simp)
                  have esh1W6 : W6.cell? ⟨w.heap.size + 1, 1, none⟩ = some (.int .i64 hi) := cell_of_block ZshW6.out 1 (by simp)
                  have lshW6 := (Array.getElem?_eq_some_iff.1 ZshW6.out).1
                  have el20W6 : W6.cell? ⟨W5.heap.size + z4.bs.size, 0, none⟩ = some (.int .i64 lP.n) := cell_of_block Zl2W6.out 0 (by simp)
                  have el21W6 : W6.cell? ⟨W5.heap.size + z4.bs.size, 1, none⟩ = some (.int .i64 lP.d) := cell_of_block Zl2W6.out 1 (by simp)
                  have ll2W6 := (Array.getElem?_eq_some_iff.1 Zl2W6.out).1
                  have er0W6 : W6.cell? ⟨w.heap.size + 1 + 1 + 1, 0, none⟩ = some (.int .i64 0) := cell_of_block ZrW6.out 0 (by simp)
                  have fr0W6 := frozen_of_block ZrW6.out 0
                  have er1W6 : W6.cell? ⟨w.heap.size + 1 + 1 + 1, 1, none⟩ = some (.int .i64 0) := cell_of_block ZrW6.out 1 (by simp)
                  have fr1W6 := frozen_of_block ZrW6.out 1
                  have lrW6 := (Array.getElem?_eq_some_iff.1 ZrW6.out).1
                  go_wp2_with fail
                  refine bodyPost_ret (v := .tuple #[.agg #[.int .i64 (A), .int .i64 (P - 1 + 1)], .int .i64 0]) (by simp [results, Tryz.results33, go_sem, *]) rfl ⟨?_, ?_⟩
                  · rw [E0.out, E1.out, E2.out, SL.out, SH.out, if_neg (show ¬ (A < A ∧ ¬ hA.n = lo * hA.d) from fun h => by have h1 := h.1; omega), if_pos ⟨k1, HK2.out⟩]; rw [show P - 1 + 1 = P by omega]
                  · exact (((HBW6.out).setCell (by simp <;> omega) _).setCell (by simp <;> omega) _).setCell (by simp <;> omega) _
              · as_aux_lemma =>
                obtain rfl : lst = P - 1 := by omega
                clear k1
                have eo0W6 : W6.cell? ⟨W3.heap.size + y2.bs.size, 0, none⟩ = some (.int .i64 A) := cell_of_block ZoW6.out 0 (by simp)
                have eo1W6 : W6.cell? ⟨W3.heap.size + y2.bs.size, 1, none⟩ = some (.int .i64 (P - 1)) := cell_of_block ZoW6.out 1 (by simp)
                have loW6 := (Array.getElem?_eq_some_iff.1 ZoW6.out).1
                have er0W6 : W6.cell? ⟨w.heap.size + 1 + 1 + 1, 0, none⟩ = some (.int .i64 0) := cell_of_block ZrW6.out 0 (by simp)
                have fr0W6 := frozen_of_block ZrW6.out 0
                have er1W6 : W6.cell? ⟨w.heap.size + 1 + 1 + 1, 1, none⟩ = some (.int .i64 0) := cell_of_block ZrW6.out 1 (by simp)
                have fr1W6 := frozen_of_block ZrW6.out 1
                have lrW6 := (Array.getElem?_eq_some_iff.1 ZrW6.out).1
                go_wp2_with fail
                refine bodyPost_ret (v := .tuple #[.agg #[.int .i64 (A), .int .i64 (P - 1)], .int .i64 0]) (by simp [results, Tryz.results33, go_sem, *]) rfl ⟨?_, ?_⟩
                · rw [E0.out, E1.out, E2.out, SL.out, SH.out, if_neg (show ¬ (A < A ∧ ¬ hA.n = lo * hA.d) from fun h => by have h1 := h.1; omega), if_neg (fun h => by have h1 := h.1; omega)]
                · exact ((HBW6.out).setCell (by simp <;> omega) _).setCell (by simp <;> omega) _
    · have e0 := Tab.strE_arg (t := t) (tlo := tlo) (thi := thi) hl
      obtain ⟨e1, e2⟩ := Tab.str_zero (t := t) (lo := lo) (hi := hi) (tlo := tlo) (thi := thi) (by rw [e0]; decide)
      rw [e0, e1, e2]
      have hlt : hi < lo := by omega
      have HL := Lib.hid hl
      clear h1 e0 e1 e2 CK I1 hl
      unfold Tab.val at HCK ⊢
      go_enter Tryz.func33, Tryz.ntmps33
      go_upto_region 1 with (fail)
      rw [HWc.out]
      go_wp2_with fail
      refine (Calls.grown HCK.out).mono ?_
      rintro e w1 ⟨rfl, z1, rfl⟩
      go_wp2_with fail
      refine bodyPost_ret (v := .tuple #[.agg #[.int .i64 0, .int .i64 0], .int .i64 1]) (by simp [results, Tryz.results33, go_sem, *]) rfl ⟨rfl, ?_⟩
      exact ((HBc.out.gw z1).setCell (by simp <;> omega) _).setCell (by simp <;> omega) _
end Go.Proofs.YtjgnafhbeekebaaGreat.L1
