/- Contract of the reference's marks. Contract of the reference's Ends. No conditions beyond each theorem's own. -/
import Derived.Test.YtjgnafhbeekebaaGreatLe
import Derived.Test.YtjgnafhbeekebaaGreatLb
import Derived.Test.YtjgnafhbeekebaaGreatAl
import Derived.Test.YtjgnafhbeekebaaGreatSk
import Derived.Test.YtjgnafhbeekebaaGreatAc
set_option linter.unusedVariables false
set_option linter.unusedSimpArgs false
set_option linter.unusedSectionVars false
set_option linter.constructorNameAsVariable false
namespace Go.Proofs.YtjgnafhbeekebaaGreat.L1
open Go.RowKit
open Go.Proofs.YtjgnafhbeekebaaGreat

attribute [local go_sem] gw_cell gw_frozen gw_size

theorem marksR_t {L : Nat → Int} {k : Nat} {lo hi : Int} (h : inB (L k) lo hi = true) : marksR L (k + 1) lo hi = marksR L k lo hi ++ [L k] := by
  unfold marksR; simp [List.range_succ, h]
theorem marksR_f {L : Nat → Int} {k : Nat} {lo hi : Int} (h : inB (L k) lo hi = false) : marksR L (k + 1) lo hi = marksR L k lo hi := by
  unfold marksR; simp [List.range_succ, h]
/-- marks in memory -/
def RMarkAt (L : Nat → Int) (n : Nat) (lo hi : Int) (N : Nat) (v : Value) (w : World) : Prop :=
  ∃ g c, v = .slice (some ⟨g, 0, none⟩) (marksR L n lo hi).length c ∧ N ≤ g ∧ g < w.heap.size ∧ ∀ i, i < (marksR L n lo hi).length → w.cell? ⟨g, i, none⟩ = some (.int .i64 ((marksR L n lo hi).getD i 0))
theorem rmark_stable {L : Nat → Int} {n : Nat} {lo hi : Int} {N : Nat} {v : Value} : StableW (RMarkAt L n lo hi N v) := fun w w' hb ⟨g, c, h1, h2, h3, h4⟩ =>
  ⟨g, c, h1, h2, Nat.lt_of_lt_of_le h3 hb.size, fun i hi => (hb.cell (p := ⟨g, i, none⟩) h3).trans (h4 i hi)⟩
theorem rmark_of_own {L : Nat → Int} {n : Nat} {lo hi : Int} {N base : Nat} {e : TypeId} {v : Value} {w : World} (h : w.ownsRow base e 1 v (marksR L n lo hi).length ((marksR L n lo hi).map (Value.int .i64))) (hN : N ≤ base) : RMarkAt L n lo hi N v w := by
  have l2 := (marksR_len L n lo hi).1
  rcases h.2 with ⟨_, h0⟩ | ⟨g', cap', cur', rfl, hg', hgb', _⟩
  · omega
  · exact ⟨g', cap', rfl, by omega, (Array.getElem?_eq_some_iff.1 hgb').1, fun i hi => row_cells h i _ (by simp [hi])⟩
def RMarked (L : Nat → Int) (n : Nat) (lo hi : Int) (w : World) (e : Ending) (w' : World) : Prop := ∃ v, e = .returned v ∧ Below w.heap.size w w' ∧ RMarkAt L n lo hi w.heap.size v w'

set_option maxRecDepth 100000 in
set_option maxHeartbeats 4000000 in
theorem rmarks_any (a : Option Addr) (n c : Nat) (L : Nat → Int) (lo hi : Int) (w : World) (hn : n ≤ 32) (hI : IntsAt w a n L) : Calls Tryz.prog 29 #[.slice a n c, .agg #[.int .i64 lo, .int .i64 hi]] w (RMarked L n lo hi w) := by
  obtain ⟨i0, hi0, hx0, hx1, hx2⟩ := info_parts infoI
  have II := Lib.hid hi0; have IZ0 := Lib.hid hx0; have IZ1 := Lib.hid hx1; have IZ2 := Lib.hid hx2
  clear hi0 hx0 hx1 hx2
  obtain ⟨W1, hW1⟩ : ∃ W1, w.alloc (.cells #[.int .i64 lo, .int .i64 hi] 27) = W1 := ⟨_, rfl⟩
  have hBc : Below w.heap.size w W1 := by rw [← hW1]; exact below_alloc _ _
  have zc0 : W1.heap[w.heap.size]? = some (.cells #[.int .i64 lo, .int .i64 hi] 27 (0, 0)) := by rw [← hW1]; exact alloc_at rfl
  have c00 : W1.cell? ⟨w.heap.size, 0, none⟩ = some (.int .i64 lo) := cell_of_block zc0 0 (by simp)
  have c01 : W1.cell? ⟨w.heap.size, 1, none⟩ = some (.int .i64 hi) := cell_of_block zc0 1 (by simp)
  have lc0 := (Array.getElem?_eq_some_iff.1 zc0).1
  clear zc0
  have HBc := Lib.hid hBc; clear hBc
  have HWc := Lib.hid hW1; clear hW1
  have HI := Lib.hid (hI.below HBc.out)
  have s1 := HBc.out.size
  clear hI
  go_enter Tryz.func29, Tryz.ntmps29
  go_upto_region 1 with (fail)
  rw [HWc.out]
  go_upto_region 2 with (fail)
  obtain ⟨W2, hW2⟩ : ∃ W2, W1.alloc (.cells #[.int .i64 lo, .int .i64 hi] 3) = W2 := ⟨_, rfl⟩
  rw [hW2]
  have R0 : W2.ownsRow W1.heap.size 3 1 (.slice (some ⟨W1.heap.size, 0, none⟩) 2 2) 2 [.int .i64 lo, .int .i64 hi] := by
    rw [← hW2]
    exact ⟨rfl, .inr ⟨W1.heap.size, 2, #[.int .i64 lo, .int .i64 hi], rfl, Nat.le_refl _, alloc_at rfl, Nat.le_refl _, by unfold maxLen; omega, rfl, rfl⟩⟩
  have HR0 := Lib.hid R0
  have HB2 := Lib.hid (show Below W1.heap.size W1 W2 by rw [← hW2]; exact below_alloc _ _)
  clear hW2 R0
  go_wp2_with fail
  go_loopw [5, 6] (fun v t wr => ∃ k : Nat, k ≤ n ∧ t = .int .i64 k ∧ Hid (wr.ownsRow W1.heap.size 3 1 v (marksR L k lo hi).length ((marksR L k lo hi).map (Value.int .i64))) ∧ Hid (Below W1.heap.size W1 wr)) (fun _ t _ => n - (intOf t).toNat)
  case atStart => exact ⟨0, Nat.zero_le _, rfl, HR0, HB2⟩
  case round =>
    obtain ⟨k, hk, rfl, RO, BR⟩ := hrel
    clear HR0 HB2
    have ln := (marksR_len L k lo hi).2
    by_cases hlt : k < n
    · have hi_ : (k : Int) < (n : Int) := by omega
      obtain ⟨b, off, rfl, lb0, hc⟩ := (HI.out.below BR.out).resolve_left (by omega)
      have x1 := hc k hlt
      clear hc
      have d0 := below_cell BR.out c00
      have d1 := below_cell BR.out c01
      have ld := Nat.lt_of_lt_of_le lc0 BR.out.size
      have IN := Lib.hid (fun w => rin_any (L k) lo hi w)
      cases hb : inB (L k) lo hi with
      | false =>
        have ST := Lib.hid (marksR_f hb)
        simp only [hb] at IN
        clear hb
        generalize L k = x at *
        obtain ⟨ff, hff⟩ : ∃ f : Bool, f = false := ⟨_, rfl⟩
        go_upto_region 5 with (fail)
        refine wp_region_gw (by kernel_rfl) (by kernel_rfl) ?_
        repeat (go_big_quiet_step ((go_at_call 19; with_reducible exact Calls.gw_of_same ((IN.out _).mono (by rintro e w' ⟨rfl, rfl⟩; exact ⟨rfl, rfl⟩)))))
        refine wpQuiet_nil ?_
        rintro _ ⟨z, rfl⟩
        clear hff
        go_wp2_with fail
        go_roundw
        case rel => exact ⟨k + 1, by omega, by go_num, Lib.hid (by rw [ST.out]; exact own_below RO.out (below_gw _ z)), Lib.hid (BR.out.trans ((below_gw _ z).mono BR.out.size))⟩
        case measure => simp [intOf]; omega
      | true =>
        have ST := Lib.hid (marksR_t hb)
        simp only [hb] at IN
        clear hb
        generalize L k = x at *
        go_upto_region 5 with (fail)
        refine wp_region_gw (by kernel_rfl) (by kernel_rfl) ?_
        repeat (go_big_quiet_step ((go_at_call 19; with_reducible exact Calls.gw_of_same ((IN.out _).mono (by rintro e w' ⟨rfl, rfl⟩; exact ⟨rfl, rfl⟩)))))
        refine wpQuiet_nil ?_
        rintro _ ⟨z, rfl⟩
        obtain ⟨V, hV⟩ : ∃ V, gw wr z = V := ⟨_, rfl⟩
        have BV := Lib.hid (show Below wr.heap.size wr V by rw [← hV]; exact below_gw _ z)
        rw [hV]
        clear hV
        replace x1 := below_cell BV.out x1
        replace lb0 := Nat.lt_of_lt_of_le lb0 BV.out.size
        have RW := Lib.hid (own_below RO.out BV.out)
        have BW := Lib.hid (thru BV.out BR.out)
        have LW := Lib.hid (show W1.heap.size ≤ V.heap.size from BW.out.size)
        clear d0 d1 ld IN
        obtain ⟨q, hq⟩ : ∃ q, (marksR L k lo hi).length = q := ⟨_, rfl⟩
        have RW2 := RW.out
        rw [hq] at RW2 ln
        obtain ⟨ao, co, hv⟩ := own_form RW2
        have RW3 := Lib.hid RW2
        clear RW2
        subst hv
        go_wp2_with (at_builtin; refine wpList_append_own _ rfl _ _ 22 rfl W1.heap.size 3 i0 (.int .i64 0) 1 8 Tryz.underlying22 II.out IZ0.out IZ1.out IZ2.out rfl (by decide) _ q ((marksR L k lo hi).map (Value.int .i64)) rfl (RW3.out.alloc _) ⟨V.heap.size, 0, none⟩ 1 1 [.int .i64 x] rfl rfl (news_lit _ _ _) (by simp [Value.oneCell']) (by unfold maxLen; omega) (by omega) (by have := LW.out; simp; omega) ?_; intro v9 w9 hown9 hgrow9 _)
        have HO9 := Lib.hid hown9
        have HB9 := Lib.hid ((BW.out.alloc BW.out.size (.cells #[.int .i64 x] 3)).grown hgrow9 (by have := BW.out.size; simp; omega) (fun b hb => (RW3.out.lt b hb).1))
        have HQ := Lib.hid hq
        clear hown9 hgrow9 hq
        go_wp2_with fail
        go_roundw
        case rel => exact ⟨k + 1, by omega, by go_num, Lib.hid (by rw [ST.out, List.length_append, HQ.out, List.map_append]; exact HO9.out), HB9⟩
        case measure => simp [intOf]; omega
    · obtain rfl : n = k := by omega
      have hi_ : ¬ (n : Int) < (n : Int) := by omega
      go_wp2_with fail
      go_ret
      exact ⟨_, rfl, thru BR.out HBc.out, rmark_of_own RO.out (by omega)⟩
end Go.Proofs.YtjgnafhbeekebaaGreat.L1

namespace Go.Proofs.YtjgnafhbeekebaaGreat.L1
open Go.RowKit
open Go.Proofs.YtjgnafhbeekebaaGreat

attribute [local go_sem] gw_cell gw_frozen gw_size

theorem infoFr : (Tryz.prog.info? 49).map (fun i => (i.zero, i.size)) = some (some (.agg #[.int .i64 0, .int .i64 0]), 2) := by kernel_rfl
theorem call_wp {P : Program} {o : Oper} {a : Act} {w : World} {Q : Exit → Act → World → Prop} {Φ : Value → World → Prop} (f : FuncId) (args : Array Value) (hx : (execOp a.eval o).run P w = .ok (.enter f args) w)
    (H : Calls P f args w fun e w' => ∃ v, e = .returned v ∧ Below w.heap.size w w' ∧ Φ v w') : o.wp P a w (fun a' w' => ∃ v, a' = a.put o.dst v ∧ Below w.heap.size w w' ∧ Φ v w') Q := by
  unfold Oper.wp
  rw [hx, Oper.upon_enter]
  refine H.mono ?_
  rintro e w' ⟨v, rfl, hb, hp⟩
  exact ⟨v, rfl, hb, hp⟩
theorem rmark_base {L : Nat → Int} {n : Nat} {lo hi : Int} {N N' : Nat} {v : Value} {w : World} (h : RMarkAt L n lo hi N v w) (hN : N' ≤ N) : RMarkAt L n lo hi N' v w := by
  obtain ⟨g, c, h1, h2, h3⟩ := h
  exact ⟨g, c, h1, by omega, h3⟩
/-- the value at the p-th corner, as the document takes them -/
def Tab.rcf (t : Tab) (m : Rows) (slo shi tlo thi : Int) : Nat → Fr := cornF t.T t.S t.nT t.nS m.M (marksR t.T t.nT tlo thi) (marksR t.S t.nS slo shi)
def Tab.rlow (t : Tab) (m : Rows) (slo shi tlo thi : Int) : Fr := lowR t.T t.S t.nT t.nS m.M tlo thi slo shi
def Tab.rhigh (t : Tab) (m : Rows) (slo shi tlo thi : Int) : Fr := highR t.T t.S t.nT t.nS m.M tlo thi slo shi
theorem rmarks_fitT {t : Tab} {tlo thi : Int} (ft : t.tb.FitT tlo thi) {i : Nat} (hi : i < (marksR t.T t.nT tlo thi).length) : t.tb.FitT ((marksR t.T t.nT tlo thi).getD i 0) ((marksR t.T t.nT tlo thi).getD i 0) := by
  have := mark_in ft.b (mem_marksR.1 (getD_mem hi))
  have a := ft.a
  have c := ft.c
  exact ⟨by omega, Int.le_refl _, by omega⟩
theorem rmarks_fitS {t : Tab} {slo shi : Int} (fs : t.tb.FitS slo shi) {i : Nat} (hi : i < (marksR t.S t.nS slo shi).length) : t.tb.FitS ((marksR t.S t.nS slo shi).getD i 0) ((marksR t.S t.nS slo shi).getD i 0) := by
  have := mark_in fs.b (mem_marksR.1 (getD_mem hi))
  have a := fs.a
  have c := fs.c
  exact ⟨by omega, Int.le_refl _, by omega⟩
theorem rlowN_fit {f : Nat → Fr} {v : Fr} {n : Nat} (hv : v.Fit) (h : ∀ j, j < n → (f j).Fit) : ∀ p, p ≤ n → (rlowN f v p).Fit
  | 0, _ => hv
  | p + 1, hp => by
    unfold rlowN
    split
    · exact h p (by omega)
    · exact rlowN_fit hv h p (by omega)
theorem rhighN_fit {f : Nat → Fr} {v : Fr} {n : Nat} (hv : v.Fit) (h : ∀ j, j < n → (f j).Fit) : ∀ p, p ≤ n → (rhighN f v p).Fit
  | 0, _ => hv
  | p + 1, hp => by
    unfold rhighN
    split
    · exact h p (by omega)
    · exact rhighN_fit hv h p (by omega)
structure REndJ (Wb V : World) (bL bH : Nat) (f : Nat → Fr) (v : Fr) (p : Nat) : Prop where
  keep : Keep2 bL bH Wb V
  lo : V.heap[bL]? = some (.cells #[.int .i64 (rlowN f v p).n, .int .i64 (rlowN f v p).d] 49 (0, 0))
  hi : V.heap[bH]? = some (.cells #[.int .i64 (rhighN f v p).n, .int .i64 (rhighN f v p).d] 49 (0, 0))

set_option maxRecDepth 100000 in
set_option maxHeartbeats 4000000 in
theorem rEnds_any (t : Tab) (g : t.Good) (m : Rows) (slo shi tlo thi : Int) (w : World) (hI : t.In w) (hM : t.Rowed m w) (ft : t.tb.FitT tlo thi) (fs : t.tb.FitS slo shi) :
    Calls Tryz.prog 15 #[t.val, m.val, .agg #[.int .i64 slo, .int .i64 shi], .agg #[.int .i64 tlo, .int .i64 thi]] w fun e w' =>
      e = .returned (.tuple #[(t.rlow m slo shi tlo thi).val, (t.rhigh m slo shi tlo thi).val]) ∧ Below w.heap.size w w' := by
  obtain ⟨nt, hnt⟩ : ∃ n, (marksR t.T t.nT tlo thi).length = n := ⟨_, rfl⟩
  obtain ⟨ns, hns⟩ : ∃ n, (marksR t.S t.nS slo shi).length = n := ⟨_, rfl⟩
  have LOW := Lib.hid (show t.rlow m slo shi tlo thi = rlowN (t.rcf m slo shi tlo thi) (t.valM m tlo slo) (nt * ns) by rw [← hnt, ← hns]; rfl)
  have HIGH := Lib.hid (show t.rhigh m slo shi tlo thi = rhighN (t.rcf m slo shi tlo thi) (t.valM m tlo slo) (nt * ns) by rw [← hnt, ← hns]; rfl)
  rw [LOW.out, HIGH.out]
  have ft0 : t.tb.FitT tlo tlo := ⟨ft.a, Int.le_refl _, Int.le_trans ft.b ft.c⟩
  have fs0 : t.tb.FitS slo slo := ⟨fs.a, Int.le_refl _, Int.le_trans fs.b fs.c⟩
  have FV := Lib.hid (g.fit hM ft0 fs0)
  have FITS := Lib.hid (fun p (hp : p < nt * ns) => show (t.rcf m slo shi tlo thi p).Fit from g.fit hM (rmarks_fitT ft (by rw [hnt, hns]; exact (corn_div hp).1)) (rmarks_fitS fs (by rw [hns]; exact (corn_div hp).2))) 
  have CF := Lib.hid (fun (i k : Nat) (hk : k < ns) => show t.rcf m slo shi tlo thi (i * ns + k) = t.valM m ((marksR t.T t.nT tlo thi).getD i 0) ((marksR t.S t.nS slo shi).getD k 0) by
    unfold Tab.rcf cornF; rw [hns, (corn_at hk).1, (corn_at hk).2]; rfl)
  have V0 := Lib.hid (fun (W : World) (hb : Below w.heap.size w W) => rValue_any t g m tlo slo W (hI.below hb) (hM.below hb) ft0 fs0)
  have VALS := Lib.hid (fun (W : World) (hb : Below w.heap.size w W) (i k : Nat) (hi : i < nt) (hk : k < ns) =>
    rValue_any t g m ((marksR t.T t.nT tlo thi).getD i 0) ((marksR t.S t.nS slo shi).getD k 0) W (hI.below hb) (hM.below hb) (rmarks_fitT ft (by rw [hnt]; exact hi)) (rmarks_fitS fs (by rw [hns]; exact hk)))
  have t32 := g.ok.t32
  have s32 := g.ok.s32
  simp only [Tab.tb] at t32 s32
  have MT := Lib.hid (fun (W : World) (hb : Below w.heap.size w W) => rmarks_any t.aT t.nT t.cT t.T tlo thi W t32 (hI.below hb).iT)
  have MS := Lib.hid (fun (W : World) (hb : Below w.heap.size w W) => rmarks_any t.aS t.nS t.cS t.S slo shi W s32 (hI.below hb).iS)
  have lt := (marksR_len t.T t.nT tlo thi).2
  have ls := (marksR_len t.S t.nS slo shi).2
  rw [hnt] at lt
  rw [hns] at ls
  have HNT := Lib.hid hnt; have HNS := Lib.hid hns
  clear hnt hns hI hM ft fs ft0 fs0 g LOW HIGH
  obtain ⟨f, hf⟩ : ∃ f, t.rcf m slo shi tlo thi = f := ⟨_, rfl⟩
  rw [hf] at CF FITS ⊢
  clear hf
  obtain ⟨v, hv⟩ : ∃ v, t.valM m tlo slo = v := ⟨_, rfl⟩
  rw [hv] at FV V0 ⊢
  clear hv
  unfold Fr.val at V0
  unfold Tab.val Rows.val at *
  obtain ⟨W1, hW1⟩ : ∃ W1, ((((w.alloc (.cells #[.slice t.aT t.nT t.cT, .slice t.aS t.nS t.cS, .slice t.H.a t.H.n t.H.c, .slice t.R.a t.R.n t.R.c] 25)).alloc (.cells #[.int .i64 slo, .int .i64 shi] 27)).alloc (.cells #[.int .i64 tlo, .int .i64 thi] 27)).alloc (.cells #[.int .i64 0, .int .i64 0] 49)).alloc (.cells #[.int .i64 0, .int .i64 0] 49) = W1 := ⟨_, rfl⟩
  have hBc : Below w.heap.size w W1 := by rw [← hW1]; exact ((((below_alloc _ _).alloc (by simp) _).alloc (by simp <;> omega) _).alloc (by simp <;> omega) _).alloc (by simp <;> omega) _
  have zc0 : W1.heap[w.heap.size]? = some (.cells #[.slice t.aT t.nT t.cT, .slice t.aS t.nS t.cS, .slice t.H.a t.H.n t.H.c, .slice t.R.a t.R.n t.R.c] 25 (0, 0)) := by rw [← hW1]; exact alloc_keep (alloc_keep (alloc_keep (alloc_keep (alloc_at rfl))))
  have zc1 : W1.heap[w.heap.size + 1]? = some (.cells #[.int .i64 slo, .int .i64 shi] 27 (0, 0)) := by rw [← hW1]; exact alloc_keep (alloc_keep (alloc_keep (alloc_at (by simp))))
  have zc2 : W1.heap[w.heap.size + 1 + 1]? = some (.cells #[.int .i64 tlo, .int .i64 thi] 27 (0, 0)) := by rw [← hW1]; exact alloc_keep (alloc_keep (alloc_at (by simp <;> omega)))
  have zc3 : W1.heap[w.heap.size + 1 + 1 + 1]? = some (.cells #[.int .i64 0, .int .i64 0] 49 (0, 0)) := by rw [← hW1]; exact alloc_keep (alloc_at (by simp <;> omega))
  have zc4 : W1.heap[w.heap.size + 1 + 1 + 1 + 1]? = some (.cells #[.int .i64 0, .int .i64 0] 49 (0, 0)) := by rw [← hW1]; exact alloc_at (by simp <;> omega)
  have c00 : W1.cell? ⟨w.heap.size, 0, none⟩ = some (.slice t.aT t.nT t.cT) := cell_of_block zc0 0 (by simp)
  have c01 : W1.cell? ⟨w.heap.size, 1, none⟩ = some (.slice t.aS t.nS t.cS) := cell_of_block zc0 1 (by simp)
  have c02 : W1.cell? ⟨w.heap.size, 2, none⟩ = some (.slice t.H.a t.H.n t.H.c) := cell_of_block zc0 2 (by simp)
  have c03 : W1.cell? ⟨w.heap.size, 3, none⟩ = some (.slice t.R.a t.R.n t.R.c) := cell_of_block zc0 3 (by simp)
  have c10 : W1.cell? ⟨w.heap.size + 1, 0, none⟩ = some (.int .i64 slo) := cell_of_block zc1 0 (by simp)
  have c11 : W1.cell? ⟨w.heap.size + 1, 1, none⟩ = some (.int .i64 shi) := cell_of_block zc1 1 (by simp)
  have c20 : W1.cell? ⟨w.heap.size + 1 + 1, 0, none⟩ = some (.int .i64 tlo) := cell_of_block zc2 0 (by simp)
  have c21 : W1.cell? ⟨w.heap.size + 1 + 1, 1, none⟩ = some (.int .i64 thi) := cell_of_block zc2 1 (by simp)
  have c30 : W1.cell? ⟨w.heap.size + 1 + 1 + 1, 0, none⟩ = some (.int .i64 0) := cell_of_block zc3 0 (by simp)
  have c31 : W1.cell? ⟨w.heap.size + 1 + 1 + 1, 1, none⟩ = some (.int .i64 0) := cell_of_block zc3 1 (by simp)
  have c40 : W1.cell? ⟨w.heap.size + 1 + 1 + 1 + 1, 0, none⟩ = some (.int .i64 0) := cell_of_block zc4 0 (by simp)
  have c41 : W1.cell? ⟨w.heap.size + 1 + 1 + 1 + 1, 1, none⟩ = some (.int .i64 0) := cell_of_block zc4 1 (by simp)
  have lc0 := (Array.getElem?_eq_some_iff.1 zc0).1
  have lc1 := (Array.getElem?_eq_some_iff.1 zc1).1
  have lc2 := (Array.getElem?_eq_some_iff.1 zc2).1
  have lc3 := (Array.getElem?_eq_some_iff.1 zc3).1
  have lc4 := (Array.getElem?_eq_some_iff.1 zc4).1
  have Zc0 := Lib.hid zc0
  have Zc1 := Lib.hid zc1
  have Zc2 := Lib.hid zc2
  have Zc3 := Lib.hid zc3
  have Zc4 := Lib.hid zc4
  clear zc0 zc1 zc2 zc3 zc4
  have HBc := Lib.hid hBc; clear hBc
  have HWc := Lib.hid hW1; clear hW1
  go_enter Tryz.func15, Tryz.ntmps15
  go_upto_region 1 with (fail)
  rw [HWc.out]
  go_wp2_with fail
  refine (Calls.grown (V0.out _ HBc.out)).mono ?_
  rintro e w1 ⟨rfl, z1, rfl⟩
  go_upto_region 3 with (fail)
  obtain ⟨W2, hW2⟩ : ∃ W2, (((gw W1 z1)).alloc (.cells #[.int .i64 v.n, .int .i64 v.d] 49)).alloc (.cells #[.int .i64 v.n, .int .i64 v.d] 49) = W2 := ⟨_, rfl⟩
  have hbW2 : Below W1.heap.size W1 W2 := by rw [← hW2]; exact ((below_gw W1 z1).alloc (by simp [gw_size]) _).alloc (by simp [gw_size] <;> omega) _
  have ZtW2 := Lib.hid ((hbW2.block _ (Array.getElem?_eq_some_iff.1 Zc0.out).1).trans Zc0.out)
  have ZsW2 := Lib.hid ((hbW2.block _ (Array.getElem?_eq_some_iff.1 Zc1.out).1).trans Zc1.out)
  have ZmW2 := Lib.hid ((hbW2.block _ (Array.getElem?_eq_some_iff.1 Zc2.out).1).trans Zc2.out)
  have ZpW2 := Lib.hid ((hbW2.block _ (Array.getElem?_eq_some_iff.1 Zc3.out).1).trans Zc3.out)
  have ZqW2 := Lib.hid ((hbW2.block _ (Array.getElem?_eq_some_iff.1 Zc4.out).1).trans Zc4.out)
  have zlW2 : W2.heap[W1.heap.size + z1.bs.size]? = some (.cells #[.int .i64 v.n, .int .i64 v.d] 49 (0, 0)) := by rw [← hW2]; exact alloc_keep (alloc_at (by simp [gw_size]))
  have ZlW2 := Lib.hid zlW2; clear zlW2
  have zhW2 : W2.heap[W1.heap.size + z1.bs.size + 1]? = some (.cells #[.int .i64 v.n, .int .i64 v.d] 49 (0, 0)) := by rw [← hW2]; exact alloc_at (by simp [gw_size] <;> omega)
  have ZhW2 := Lib.hid zhW2; clear zhW2
  have HBW2 := Lib.hid (thru hbW2 HBc.out)
  have SBW2 := Lib.hid hbW2; clear hbW2
  have HWW2 := Lib.hid hW2; clear hW2
  rw [HWW2.out]
  clear c00 c01 c02 c03 c10 c11 c20 c21 c30 c31 c40 c41
  have zsW2 := SBW2.out.size
  have et0W2 : W2.cell? ⟨w.heap.size, 0, none⟩ = some (.slice t.aT t.nT t.cT) := cell_of_block ZtW2.out 0 (by simp)
  have et1W2 : W2.cell? ⟨w.heap.size, 1, none⟩ = some (.slice t.aS t.nS t.cS) := cell_of_block ZtW2.out 1 (by simp)
  have et2W2 : W2.cell? ⟨w.heap.size, 2, none⟩ = some (.slice t.H.a t.H.n t.H.c) := cell_of_block ZtW2.out 2 (by simp)
  have et3W2 : W2.cell? ⟨w.heap.size, 3, none⟩ = some (.slice t.R.a t.R.n t.R.c) := cell_of_block ZtW2.out 3 (by simp)
  have ltW2 := (Array.getElem?_eq_some_iff.1 ZtW2.out).1
  have es0W2 : W2.cell? ⟨w.heap.size + 1, 0, none⟩ = some (.int .i64 slo) := cell_of_block ZsW2.out 0 (by simp)
  have es1W2 : W2.cell? ⟨w.heap.size + 1, 1, none⟩ = some (.int .i64 shi) := cell_of_block ZsW2.out 1 (by simp)
  have lsW2 := (Array.getElem?_eq_some_iff.1 ZsW2.out).1
  have em0W2 : W2.cell? ⟨w.heap.size + 1 + 1, 0, none⟩ = some (.int .i64 tlo) := cell_of_block ZmW2.out 0 (by simp)
  have em1W2 : W2.cell? ⟨w.heap.size + 1 + 1, 1, none⟩ = some (.int .i64 thi) := cell_of_block ZmW2.out 1 (by simp)
  have lmW2 := (Array.getElem?_eq_some_iff.1 ZmW2.out).1
  refine wp_region_loose [true, true, true, false, true, true, true, false, false, false] [⟨3, 28, RMarkAt t.T t.nT tlo thi W2.heap.size⟩, ⟨7, 32, RMarkAt t.S t.nS slo shi W2.heap.size⟩, ⟨8, 12, RMarkAt t.T t.nT tlo thi W2.heap.size⟩, ⟨9, 13, RMarkAt t.S t.nS slo shi W2.heap.size⟩] (by kernel_rfl) rfl (by kernel_rfl) (by kernel_rfl) ?_ ?_
  · intro b hb v
    simp only [List.mem_cons, List.not_mem_nil, or_false] at hb
    rcases hb with rfl | rfl | rfl | rfl <;> exact rmark_stable
  apply Exists.intro
  refine ⟨fun S hS hx => ?_, ?_, ?_⟩
  · obtain ⟨x0, hx0⟩ := hx
    haveI : Nonempty (GrewS W2 S) := ⟨⟨x0, hx0⟩⟩
    simp only [pickM]
    repeat (go_big_quiet_step (fail))
    exact wpQuiet_nil rfl
  · intro b hb
    simp only [List.mem_cons, List.not_mem_nil, or_false] at hb
    rcases hb with rfl | rfl | rfl | rfl <;> (intro o ho a wx hbw e1 e2; injection (show some _ = some o from ho) with ho; subst ho; refine .inl ?_)
    · have h1 := e1 26 (List.contains_iff_mem.1 (by kernel_rfl)) (by simp)
      have h2 := e1 27 (List.contains_iff_mem.1 (by kernel_rfl)) (by simp)
      simp at h1 h2
      have v1 : a.eval (.tmp 26) = .slice t.aT t.nT t.cT := eval_of h1
      have v2 : a.eval (.tmp 27) = .agg #[.int .i64 tlo, .int .i64 thi] := eval_of h2
      have en := enters_of Tryz.func29 (by kernel_rfl) rfl #[.slice t.aT t.nT t.cT, .agg #[.int .i64 tlo, .int .i64 thi]] wx
      refine call_wp 29 #[.slice t.aT t.nT t.cT, .agg #[.int .i64 tlo, .int .i64 thi]] ?_ ?_
      · simp [execOp, go_sem, v1, v2, resolve, invoke, en, Result.andThen, h1, h2]
      · exact (MT.out wx (thru hbw HBW2.out)).mono (fun e w' ⟨v, he, hb, hm⟩ => ⟨v, he, hb, rmark_base hm hbw.size⟩)
    · have h1 := e1 30 (List.contains_iff_mem.1 (by kernel_rfl)) (by simp)
      have h2 := e1 31 (List.contains_iff_mem.1 (by kernel_rfl)) (by simp)
      simp at h1 h2
      have v1 : a.eval (.tmp 30) = .slice t.aS t.nS t.cS := eval_of h1
      have v2 : a.eval (.tmp 31) = .agg #[.int .i64 slo, .int .i64 shi] := eval_of h2
      have en := enters_of Tryz.func29 (by kernel_rfl) rfl #[.slice t.aS t.nS t.cS, .agg #[.int .i64 slo, .int .i64 shi]] wx
      refine call_wp 29 #[.slice t.aS t.nS t.cS, .agg #[.int .i64 slo, .int .i64 shi]] ?_ ?_
      · simp [execOp, go_sem, v1, v2, resolve, invoke, en, Result.andThen, h1, h2]
      · exact (MS.out wx (thru hbw HBW2.out)).mono (fun e w' ⟨v, he, hb, hm⟩ => ⟨v, he, hb, rmark_base hm hbw.size⟩)
    · obtain ⟨v0, h1, h2⟩ := e2 ⟨3, 28, RMarkAt t.T t.nT tlo thi W2.heap.size⟩ (by simp) (List.contains_iff_mem.1 (by kernel_rfl))
      exact move_wp (.tmp 28) rfl v0 (eval_of h1) h2
    · obtain ⟨v0, h1, h2⟩ := e2 ⟨7, 32, RMarkAt t.S t.nS slo shi W2.heap.size⟩ (by simp) (List.contains_iff_mem.1 (by kernel_rfl))
      exact move_wp (.tmp 32) rfl v0 (eval_of h1) h2
  · intro β wx hbx hΦ
    have q1 := hΦ ⟨8, 12, RMarkAt t.T t.nT tlo thi W2.heap.size⟩ (by simp)
    have q2 := hΦ ⟨9, 13, RMarkAt t.S t.nS slo shi W2.heap.size⟩ (by simp)
    simp only [loosePut, List.foldl_cons, List.foldl_nil]
    clear hΦ
    dsimp only at q1 q2
    obtain ⟨ga, ca, eva, ga0, ga1, CA⟩ := q1
    obtain ⟨gb, cb, evb, gb0, gb1, CB⟩ := q2
    rw [HNT.out] at eva CA
    rw [HNS.out] at evb CB
    have HCA := Lib.hid CA; have HCB := Lib.hid CB
    clear CA CB
    have SBwx := Lib.hid (hbx)
    have Ztwx := Lib.hid ((SBwx.out.block _ (Array.getElem?_eq_some_iff.1 ZtW2.out).1).trans ZtW2.out)
    have Zswx := Lib.hid ((SBwx.out.block _ (Array.getElem?_eq_some_iff.1 ZsW2.out).1).trans ZsW2.out)
    have Zmwx := Lib.hid ((SBwx.out.block _ (Array.getElem?_eq_some_iff.1 ZmW2.out).1).trans ZmW2.out)
    have Zpwx := Lib.hid ((SBwx.out.block _ (Array.getElem?_eq_some_iff.1 ZpW2.out).1).trans ZpW2.out)
    have Zqwx := Lib.hid ((SBwx.out.block _ (Array.getElem?_eq_some_iff.1 ZqW2.out).1).trans ZqW2.out)
    have Zlwx := Lib.hid ((SBwx.out.block _ (Array.getElem?_eq_some_iff.1 ZlW2.out).1).trans ZlW2.out)
    have Zhwx := Lib.hid ((SBwx.out.block _ (Array.getElem?_eq_some_iff.1 ZhW2.out).1).trans ZhW2.out)
    have HBwx := Lib.hid (thru SBwx.out HBW2.out)
    have zswx := SBwx.out.size
    have S2x := SBwx.out.size
    have sz2 := HBW2.out.size
    have s1w := (Array.getElem?_eq_some_iff.1 Zc4.out).1
    have w2z : W1.heap.size + z1.bs.size + 1 < W2.heap.size := (Array.getElem?_eq_some_iff.1 ZhW2.out).1
    obtain ⟨bl, hbl⟩ : ∃ b, W1.heap.size + z1.bs.size = b := ⟨_, rfl⟩
    have bl0 : W1.heap.size ≤ bl := by omega
    rw [hbl] at w2z
    have Xl := Zlwx.out
    rw [hbl] at Xl
    have Yl := Lib.hid Xl
    clear Xl
    have Xh := Zhwx.out
    rw [hbl] at Xh
    have Yh := Lib.hid Xh
    clear Xh
    simp only [eva, evb, hbl, Act.put, List.setIfInBounds_toArray, List.set_cons_succ, List.set_cons_zero]
    clear eva evb hbl et0W2 et1W2 et2W2 et3W2 es0W2 es1W2 em0W2 em1W2
    generalize β 28 = y28
    generalize β 32 = y32
    go_wp2_with fail
    go_loopw [14] (fun s wr => ∃ i : Nat, i ≤ nt ∧ s = .int .i64 i ∧ REndJ wx wr bl (bl + 1) f v (i * ns)) (fun s _ => nt - (intOf s).toNat)
    case atStart => exact ⟨0, Nat.zero_le _, rfl, by rw [Nat.zero_mul]; exact ⟨Keep2.refl _ _ _, Yl.out, Yh.out⟩⟩
    case round =>
      obtain ⟨i, hi, rfl, hJ⟩ := hrel
      by_cases hlt : i < nt
      · have hii : (i : Int) < (nt : Int) := by omega
        have HJI := Lib.hid hJ
        clear hJ
        go_wp2_with fail
        go_loopw [15] (fun s wr => ∃ k : Nat, k ≤ ns ∧ s = .int .i64 k ∧ REndJ wx wr bl (bl + 1) f v (i * ns + k)) (fun s _ => ns - (intOf s).toNat)
        case atStart => exact ⟨0, Nat.zero_le _, rfl, HJI.out⟩
        case round =>
          obtain ⟨k, hk, rfl, hJ⟩ := hrel
          clear HJI
          by_cases hl2 : k < ns
          · have hkk : (k : Int) < (ns : Int) := by omega
            have hp : i * ns + k < nt * ns := corn_lt hlt hl2
            have HK := hJ.keep
            have Vt := Lib.hid ((HK.block _ (Array.getElem?_eq_some_iff.1 Ztwx.out).1 (by omega) (by omega)).trans Ztwx.out)
            have Vl := Lib.hid hJ.lo
            have Vh := Lib.hid hJ.hi
            have HBV := Lib.hid (HK.low HBwx.out HBwx.out.size (by omega) (by omega))
            have KP := Lib.hid HK
            have hz := HK.size
            have ca_ := (HK.cell (p := ⟨ga, i, none⟩) ga1 (by dsimp only; omega) (by dsimp only; omega)).trans (HCA.out i hlt)
            have cb_ := (HK.cell (p := ⟨gb, k, none⟩) gb1 (by dsimp only; omega) (by dsimp only; omega)).trans (HCB.out k hl2)
            have la_ := Nat.lt_of_lt_of_le ga1 hz
            have lb_ := Nat.lt_of_lt_of_le gb1 hz
            clear HK hJ
            have VA := fun (W : World) (hb : Below wr.heap.size wr W) => VALS.out W (thru hb HBV.out) i k hlt hl2
            have CFX := CF.out i k hl2
            rw [← CFX] at VA
            obtain ⟨x, hx⟩ : ∃ x, (marksR t.T t.nT tlo thi).getD i 0 = x := ⟨_, rfl⟩
            obtain ⟨y, hy⟩ : ∃ y, (marksR t.S t.nS slo shi).getD k 0 = y := ⟨_, rfl⟩
            rw [hx] at VA ca_
            rw [hy] at VA cb_
            clear hx hy CFX
            have SUCC := Lib.hid (show i * ns + (k + 1) = i * ns + k + 1 from rfl)
            obtain ⟨p, hpp⟩ : ∃ p, i * ns + k = p := ⟨_, rfl⟩
            rw [hpp] at VA hp SUCC Vl Vh
            have FP := FITS.out p hp
            have FL := rlowN_fit FV.out (fun j hj => FITS.out j hj) p (Nat.le_of_lt hp)
            have FH := rhighN_fit FV.out (fun j hj => FITS.out j hj) p (Nat.le_of_lt hp)
            clear hpp hp
            have EL := Lib.hid (show rlowN f v (p + 1) = if ltF (f p) (rlowN f v p) = true then f p else rlowN f v p from rfl)
            have EH := Lib.hid (show rhighN f v (p + 1) = if ltF (rhighN f v p) (f p) = true then f p else rhighN f v p from rfl)
            obtain ⟨u, hu⟩ : ∃ u, f p = u := ⟨_, rfl⟩
            obtain ⟨lo, hlo⟩ : ∃ u, rlowN f v p = u := ⟨_, rfl⟩
            obtain ⟨hg, hhg⟩ : ∃ u, rhighN f v p = u := ⟨_, rfl⟩
            rw [hu] at VA FP EL EH
            rw [hlo] at FL EL Vl
            rw [hhg] at FH EH Vh
            clear hu hlo hhg
            unfold Fr.val at VA
            have VA2 := Lib.hid VA
            clear VA
            have LS := Lib.hid (fun w => rless_any u lo w FP FL)
            have LG := Lib.hid (fun w => rless_any hg u w FH FP)
            obtain ⟨un, ud⟩ := u
            obtain ⟨ln, ld⟩ := lo
            obtain ⟨hn, hd⟩ := hg
            dsimp only at *
            have et0wr : wr.cell? ⟨w.heap.size, 0, none⟩ = some (.slice t.aT t.nT t.cT) := cell_of_block Vt.out 0 (by simp)
            have et1wr : wr.cell? ⟨w.heap.size, 1, none⟩ = some (.slice t.aS t.nS t.cS) := cell_of_block Vt.out 1 (by simp)
            have et2wr : wr.cell? ⟨w.heap.size, 2, none⟩ = some (.slice t.H.a t.H.n t.H.c) := cell_of_block Vt.out 2 (by simp)
            have et3wr : wr.cell? ⟨w.heap.size, 3, none⟩ = some (.slice t.R.a t.R.n t.R.c) := cell_of_block Vt.out 3 (by simp)
            have ltwr := (Array.getElem?_eq_some_iff.1 Vt.out).1
            go_upto_region 10 with (fail)
            refine wp_region_box1 [true, true, true, true, true, true, true, true, true, true, true, false, false] 11 12 #[.int .i64 0, .int .i64 0] #[.int .i64 un, .int .i64 ud] (by kernel_rfl) rfl rfl rfl (by kernel_rfl) rfl (by kernel_rfl) infoFr rfl rfl (by simp [Value.oneCell']) ?_
            apply Exists.intro
            refine ⟨fun S hS hx => ?_, ?_, ?_⟩
            · obtain ⟨x0, hx0⟩ := hx
              haveI : Nonempty (GrewS wr S) := ⟨⟨x0, hx0⟩⟩
              simp only [pickM]
              repeat (go_big_quiet_step ((go_at_call 12; with_reducible exact Calls.gwS hS (VA2.out _ (below_gw wr _)))))
              exact wpQuiet_nil rfl
            · rfl
            · intro Bp vp hBwp hblk hbb
              have HKp := Lib.hid hblk; clear hblk
              have KPv := Lib.hid (KP.out.trans (Keep2.of hbb))
              have SBvp := Lib.hid (hbb)
              have Ztvp := Lib.hid ((SBvp.out.block _ (Array.getElem?_eq_some_iff.1 Vt.out).1).trans Vt.out)
              have Zlvp := Lib.hid ((SBvp.out.block _ (Array.getElem?_eq_some_iff.1 Vl.out).1).trans Vl.out)
              have Zhvp := Lib.hid ((SBvp.out.block _ (Array.getElem?_eq_some_iff.1 Vh.out).1).trans Vh.out)
              have HBvp := Lib.hid (thru SBvp.out HBV.out)
              have zsvp := SBvp.out.size
              clear hbb ca_ cb_ la_ lb_ KP et0wr et1wr et2wr et3wr
              go_upto_region 11 with (fail)
              simp only [Act.put, List.setIfInBounds_toArray, List.set_cons_succ, List.set_cons_zero]
              have vz : wx.heap.size ≤ vp.heap.size := KPv.out.size
              cases h1 : ltF ⟨un, ud⟩ ⟨ln, ld⟩ with
              | false =>
                cases h2 : ltF ⟨hn, hd⟩ ⟨un, ud⟩ with
                | false =>
                  simp only [h1] at LS
                  simp only [h2] at LG
                  have NL := Lib.hid (EL.out.trans (if_neg (by rw [h1]; decide)))
                  have NH := Lib.hid (EH.out.trans (if_neg (by rw [h2]; decide)))
                  clear EL EH h1 h2 FP FL FH
                  have el0vp : vp.cell? ⟨bl, 0, none⟩ = some (.int .i64 ln) := cell_of_block Zlvp.out 0 (by simp)
                  have el1vp : vp.cell? ⟨bl, 1, none⟩ = some (.int .i64 ld) := cell_of_block Zlvp.out 1 (by simp)
                  have llvp := (Array.getElem?_eq_some_iff.1 Zlvp.out).1
                  have eh0vp : vp.cell? ⟨(bl + 1), 0, none⟩ = some (.int .i64 hn) := cell_of_block Zhvp.out 0 (by simp)
                  have eh1vp : vp.cell? ⟨(bl + 1), 1, none⟩ = some (.int .i64 hd) := cell_of_block Zhvp.out 1 (by simp)
                  have lhvp := (Array.getElem?_eq_some_iff.1 Zhvp.out).1
                  have eb0vp : vp.cell? ⟨Bp, 0, none⟩ = some (.int .i64 un) := cell_of_block HKp.out 0 (by simp)
                  have eb1vp : vp.cell? ⟨Bp, 1, none⟩ = some (.int .i64 ud) := cell_of_block HKp.out 1 (by simp)
                  have lbvp := (Array.getElem?_eq_some_iff.1 HKp.out).1
                  go_wp2_with fail
                  refine (Calls.grown (LS.out _)).mono ?_
                  rintro e w1 ⟨rfl, z5, rfl⟩
                  go_wp2_with fail
                  refine (Calls.gw_of (LG.out _)).mono ?_
                  rintro e w1 ⟨rfl, z6, rfl⟩
                  go_wp2_with fail
                  go_roundw
                  case rel => exact ⟨k + 1, by omega, by go_num, by rw [SUCC.out]; exact ⟨(KPv.out.trans (Keep2.of (below_gw vp z6))), by rw [NL.out]; exact ((below_gw vp z6).block _ (Array.getElem?_eq_some_iff.1 Zlvp.out).1).trans Zlvp.out, by rw [NH.out]; exact ((below_gw vp z6).block _ (Array.getElem?_eq_some_iff.1 Zhvp.out).1).trans Zhvp.out⟩⟩
                  case measure => simp [intOf]; omega
                | true =>
                  simp only [h1] at LS
                  simp only [h2] at LG
                  have NL := Lib.hid (EL.out.trans (if_neg (by rw [h1]; decide)))
                  have NH := Lib.hid (EH.out.trans (if_pos h2))
                  clear EL EH h1 h2 FP FL FH
                  have el0vp : vp.cell? ⟨bl, 0, none⟩ = some (.int .i64 ln) := cell_of_block Zlvp.out 0 (by simp)
                  have fl0vp := frozen_of_block Zlvp.out 0
                  have el1vp : vp.cell? ⟨bl, 1, none⟩ = some (.int .i64 ld) := cell_of_block Zlvp.out 1 (by simp)
                  have fl1vp := frozen_of_block Zlvp.out 1
                  have llvp := (Array.getElem?_eq_some_iff.1 Zlvp.out).1
                  have eh0vp : vp.cell? ⟨(bl + 1), 0, none⟩ = some (.int .i64 hn) := cell_of_block Zhvp.out 0 (by simp)
                  have fh0vp := frozen_of_block Zhvp.out 0
                  have eh1vp : vp.cell? ⟨(bl + 1), 1, none⟩ = some (.int .i64 hd) := cell_of_block Zhvp.out 1 (by simp)
                  have fh1vp := frozen_of_block Zhvp.out 1
                  have lhvp := (Array.getElem?_eq_some_iff.1 Zhvp.out).1
                  have eb0vp : vp.cell? ⟨Bp, 0, none⟩ = some (.int .i64 un) := cell_of_block HKp.out 0 (by simp)
                  have eb1vp : vp.cell? ⟨Bp, 1, none⟩ = some (.int .i64 ud) := cell_of_block HKp.out 1 (by simp)
                  have lbvp := (Array.getElem?_eq_some_iff.1 HKp.out).1
                  go_wp2_with fail
                  refine (Calls.grown (LS.out _)).mono ?_
                  rintro e w1 ⟨rfl, z5, rfl⟩
                  go_wp2_with fail
                  refine (Calls.gw_of (LG.out _)).mono ?_
                  rintro e w1 ⟨rfl, z6, rfl⟩
                  go_upto_region 9 with (fail)
                  obtain ⟨W21, hW21⟩ : ∃ W21, (((gw vp z6)).setCell ⟨(bl + 1), 0, none⟩ (.int .i64 un)).setCell ⟨(bl + 1), 1, none⟩ (.int .i64 ud) = W21 := ⟨_, rfl⟩
                  have hgW21 : vp.grownBy W21 (some ((bl + 1))) := by rw [← hW21]; exact grownBy_trans (grownBy_trans (grownBy_of_below (below_gw vp z6) _) (grownBy_set _ _ _ _)) (grownBy_set _ _ _ _)
                  have ZtW21 := Lib.hid ((hgW21.block _ (Array.getElem?_eq_some_iff.1 Ztvp.out).1 (by simp <;> omega)).trans Ztvp.out)
                  have ZlW21 := Lib.hid ((hgW21.block _ (Array.getElem?_eq_some_iff.1 Zlvp.out).1 (by simp <;> omega)).trans Zlvp.out)
                  have ZhW21 := Lib.hid (show W21.heap[(bl + 1)]? = some (.cells #[.int .i64 un, .int .i64 ud] 49 (0, 0)) by rw [← hW21]; exact block_set 1 _ (block_set 0 _ (((below_gw vp z6).block _ (Array.getElem?_eq_some_iff.1 Zhvp.out).1).trans Zhvp.out)))
                  have ZbW21 := Lib.hid ((hgW21.block _ (Array.getElem?_eq_some_iff.1 HKp.out).1 (by simp <;> omega)).trans HKp.out)
                  have HBW21 := Lib.hid (HBvp.out.grown hgW21 HBvp.out.size (fun g hg => by cases hg; omega))
                  have zsW21 := hgW21.size
                  have GBW21 := Lib.hid hgW21; clear hgW21
                  have HWW21 := Lib.hid hW21; clear hW21
                  rw [HWW21.out]
                  go_wp2_with fail
                  go_roundw
                  case rel => exact ⟨k + 1, by omega, by go_num, by rw [SUCC.out]; exact ⟨(KPv.out.trans (Keep2.grown GBW21.out (.inr (.inl rfl)))), by rw [NL.out]; exact ZlW21.out, by rw [NH.out]; exact ZhW21.out⟩⟩
                  case measure => simp [intOf]; omega
              | true =>
                cases h2 : ltF ⟨hn, hd⟩ ⟨un, ud⟩ with
                | false =>
                  simp only [h1] at LS
                  simp only [h2] at LG
                  have NL := Lib.hid (EL.out.trans (if_pos h1))
                  have NH := Lib.hid (EH.out.trans (if_neg (by rw [h2]; decide)))
                  clear EL EH h1 h2 FP FL FH
                  have el0vp : vp.cell? ⟨bl, 0, none⟩ = some (.int .i64 ln) := cell_of_block Zlvp.out 0 (by simp)
                  have fl0vp := frozen_of_block Zlvp.out 0
                  have el1vp : vp.cell? ⟨bl, 1, none⟩ = some (.int .i64 ld) := cell_of_block Zlvp.out 1 (by simp)
                  have fl1vp := frozen_of_block Zlvp.out 1
                  have llvp := (Array.getElem?_eq_some_iff.1 Zlvp.out).1
                  have eh0vp : vp.cell? ⟨(bl + 1), 0, none⟩ = some (.int .i64 hn) := cell_of_block Zhvp.out 0 (by simp)
                  have fh0vp := frozen_of_block Zhvp.out 0
                  have eh1vp : vp.cell? ⟨(bl + 1), 1, none⟩ = some (.int .i64 hd) := cell_of_block Zhvp.out 1 (by simp)
                  have fh1vp := frozen_of_block Zhvp.out 1
                  have lhvp := (Array.getElem?_eq_some_iff.1 Zhvp.out).1
                  have eb0vp : vp.cell? ⟨Bp, 0, none⟩ = some (.int .i64 un) := cell_of_block HKp.out 0 (by simp)
                  have eb1vp : vp.cell? ⟨Bp, 1, none⟩ = some (.int .i64 ud) := cell_of_block HKp.out 1 (by simp)
                  have lbvp := (Array.getElem?_eq_some_iff.1 HKp.out).1
                  go_wp2_with fail
                  refine (Calls.grown (LS.out _)).mono ?_
                  rintro e w1 ⟨rfl, z5, rfl⟩
                  go_upto_region 13 with (fail)
                  obtain ⟨W21, hW21⟩ : ∃ W21, (((gw vp z5)).setCell ⟨bl, 0, none⟩ (.int .i64 un)).setCell ⟨bl, 1, none⟩ (.int .i64 ud) = W21 := ⟨_, rfl⟩
                  have hgW21 : vp.grownBy W21 (some (bl)) := by rw [← hW21]; exact grownBy_trans (grownBy_trans (grownBy_of_below (below_gw vp z5) _) (grownBy_set _ _ _ _)) (grownBy_set _ _ _ _)
                  have ZtW21 := Lib.hid ((hgW21.block _ (Array.getElem?_eq_some_iff.1 Ztvp.out).1 (by simp <;> omega)).trans Ztvp.out)
                  have ZlW21 := Lib.hid (show W21.heap[bl]? = some (.cells #[.int .i64 un, .int .i64 ud] 49 (0, 0)) by rw [← hW21]; exact block_set 1 _ (block_set 0 _ (((below_gw vp z5).block _ (Array.getElem?_eq_some_iff.1 Zlvp.out).1).trans Zlvp.out)))
                  have ZhW21 := Lib.hid ((hgW21.block _ (Array.getElem?_eq_some_iff.1 Zhvp.out).1 (by simp <;> omega)).trans Zhvp.out)
                  have ZbW21 := Lib.hid ((hgW21.block _ (Array.getElem?_eq_some_iff.1 HKp.out).1 (by simp <;> omega)).trans HKp.out)
                  have HBW21 := Lib.hid (HBvp.out.grown hgW21 HBvp.out.size (fun g hg => by cases hg; omega))
                  have zsW21 := hgW21.size
                  have GBW21 := Lib.hid hgW21; clear hgW21
                  have HWW21 := Lib.hid hW21; clear hW21
                  rw [HWW21.out]
                  clear el0vp el1vp eh0vp eh1vp eb0vp eb1vp
                  have el0W21 : W21.cell? ⟨bl, 0, none⟩ = some (.int .i64 un) := cell_of_block ZlW21.out 0 (by simp)
                  have el1W21 : W21.cell? ⟨bl, 1, none⟩ = some (.int .i64 ud) := cell_of_block ZlW21.out 1 (by simp)
                  have llW21 := (Array.getElem?_eq_some_iff.1 ZlW21.out).1
                  have eh0W21 : W21.cell? ⟨(bl + 1), 0, none⟩ = some (.int .i64 hn) := cell_of_block ZhW21.out 0 (by simp)
                  have eh1W21 : W21.cell? ⟨(bl + 1), 1, none⟩ = some (.int .i64 hd) := cell_of_block ZhW21.out 1 (by simp)
                  have lhW21 := (Array.getElem?_eq_some_iff.1 ZhW21.out).1
                  have eb0W21 : W21.cell? ⟨Bp, 0, none⟩ = some (.int .i64 un) := cell_of_block ZbW21.out 0 (by simp)
                  have eb1W21 : W21.cell? ⟨Bp, 1, none⟩ = some (.int .i64 ud) := cell_of_block ZbW21.out 1 (by simp)
                  have lbW21 := (Array.getElem?_eq_some_iff.1 ZbW21.out).1
                  go_wp2_with fail
                  refine (Calls.grown (LG.out _)).mono ?_
                  rintro e w1 ⟨rfl, z6, rfl⟩
                  go_wp2_with fail
                  go_roundw
                  case rel => exact ⟨k + 1, by omega, by go_num, by rw [SUCC.out]; exact ⟨((KPv.out.trans (Keep2.grown GBW21.out (.inl rfl))).trans (Keep2.of (below_gw W21 z6))), by rw [NL.out]; exact ((below_gw W21 z6).block _ (Array.getElem?_eq_some_iff.1 ZlW21.out).1).trans ZlW21.out, by rw [NH.out]; exact ((below_gw W21 z6).block _ (Array.getElem?_eq_some_iff.1 ZhW21.out).1).trans ZhW21.out⟩⟩
                  case measure => simp [intOf]; omega
                | true =>
                  simp only [h1] at LS
                  simp only [h2] at LG
                  have NL := Lib.hid (EL.out.trans (if_pos h1))
                  have NH := Lib.hid (EH.out.trans (if_pos h2))
                  clear EL EH h1 h2 FP FL FH
                  have el0vp : vp.cell? ⟨bl, 0, none⟩ = some (.int .i64 ln) := cell_of_block Zlvp.out 0 (by simp)
                  have fl0vp := frozen_of_block Zlvp.out 0
                  have el1vp : vp.cell? ⟨bl, 1, none⟩ = some (.int .i64 ld) := cell_of_block Zlvp.out 1 (by simp)
                  have fl1vp := frozen_of_block Zlvp.out 1
                  have llvp := (Array.getElem?_eq_some_iff.1 Zlvp.out).1
                  have eh0vp : vp.cell? ⟨(bl + 1), 0, none⟩ = some (.int .i64 hn) := cell_of_block Zhvp.out 0 (by simp)
                  have fh0vp := frozen_of_block Zhvp.out 0
                  have eh1vp : vp.cell? ⟨(bl + 1), 1, none⟩ = some (.int .i64 hd) := cell_of_block Zhvp.out 1 (by simp)
                  have fh1vp := frozen_of_block Zhvp.out 1
                  have lhvp := (Array.getElem?_eq_some_iff.1 Zhvp.out).1
                  have eb0vp : vp.cell? ⟨Bp, 0, none⟩ = some (.int .i64 un) := cell_of_block HKp.out 0 (by simp)
                  have eb1vp : vp.cell? ⟨Bp, 1, none⟩ = some (.int .i64 ud) := cell_of_block HKp.out 1 (by simp)
                  have lbvp := (Array.getElem?_eq_some_iff.1 HKp.out).1
                  go_wp2_with fail
                  refine (Calls.grown (LS.out _)).mono ?_
                  rintro e w1 ⟨rfl, z5, rfl⟩
                  go_upto_region 13 with (fail)
                  obtain ⟨W21, hW21⟩ : ∃ W21, (((gw vp z5)).setCell ⟨bl, 0, none⟩ (.int .i64 un)).setCell ⟨bl, 1, none⟩ (.int .i64 ud) = W21 := ⟨_, rfl⟩
                  have hgW21 : vp.grownBy W21 (some (bl)) := by rw [← hW21]; exact grownBy_trans (grownBy_trans (grownBy_of_below (below_gw vp z5) _) (grownBy_set _ _ _ _)) (grownBy_set _ _ _ _)
                  have ZtW21 := Lib.hid ((hgW21.block _ (Array.getElem?_eq_some_iff.1 Ztvp.out).1 (by simp <;> omega)).trans Ztvp.out)
                  have ZlW21 := Lib.hid (show W21.heap[bl]? = some (.cells #[.int .i64 un, .int .i64 ud] 49 (0, 0)) by rw [← hW21]; exact block_set 1 _ (block_set 0 _ (((below_gw vp z5).block _ (Array.getElem?_eq_some_iff.1 Zlvp.out).1).trans Zlvp.out)))
                  have ZhW21 := Lib.hid ((hgW21.block _ (Array.getElem?_eq_some_iff.1 Zhvp.out).1 (by simp <;> omega)).trans Zhvp.out)
                  have ZbW21 := Lib.hid ((hgW21.block _ (Array.getElem?_eq_some_iff.1 HKp.out).1 (by simp <;> omega)).trans HKp.out)
                  have HBW21 := Lib.hid (HBvp.out.grown hgW21 HBvp.out.size (fun g hg => by cases hg; omega))
                  have zsW21 := hgW21.size
                  have GBW21 := Lib.hid hgW21; clear hgW21
                  have HWW21 := Lib.hid hW21; clear hW21
                  rw [HWW21.out]
                  clear el0vp el1vp eh0vp eh1vp eb0vp eb1vp
                  have el0W21 : W21.cell? ⟨bl, 0, none⟩ = some (.int .i64 un) := cell_of_block ZlW21.out 0 (by simp)
                  have el1W21 : W21.cell? ⟨bl, 1, none⟩ = some (.int .i64 ud) := cell_of_block ZlW21.out 1 (by simp)
                  have llW21 := (Array.getElem?_eq_some_iff.1 ZlW21.out).1
                  have eh0W21 : W21.cell? ⟨(bl + 1), 0, none⟩ = some (.int .i64 hn) := cell_of_block ZhW21.out 0 (by simp)
                  have fh0W21 := frozen_of_block ZhW21.out 0
                  have eh1W21 : W21.cell? ⟨(bl + 1), 1, none⟩ = some (.int .i64 hd) := cell_of_block ZhW21.out 1 (by simp)
                  have fh1W21 := frozen_of_block ZhW21.out 1
                  have lhW21 := (Array.getElem?_eq_some_iff.1 ZhW21.out).1
                  have eb0W21 : W21.cell? ⟨Bp, 0, none⟩ = some (.int .i64 un) := cell_of_block ZbW21.out 0 (by simp)
                  have eb1W21 : W21.cell? ⟨Bp, 1, none⟩ = some (.int .i64 ud) := cell_of_block ZbW21.out 1 (by simp)
                  have lbW21 := (Array.getElem?_eq_some_iff.1 ZbW21.out).1
                  go_wp2_with fail
                  refine (Calls.grown (LG.out _)).mono ?_
                  rintro e w1 ⟨rfl, z6, rfl⟩
                  go_upto_region 9 with (fail)
                  obtain ⟨W22, hW22⟩ : ∃ W22, (((gw W21 z6)).setCell ⟨(bl + 1), 0, none⟩ (.int .i64 un)).setCell ⟨(bl + 1), 1, none⟩ (.int .i64 ud) = W22 := ⟨_, rfl⟩
                  have hgW22 : W21.grownBy W22 (some ((bl + 1))) := by rw [← hW22]; exact grownBy_trans (grownBy_trans (grownBy_of_below (below_gw W21 z6) _) (grownBy_set _ _ _ _)) (grownBy_set _ _ _ _)
                  have ZtW22 := Lib.hid ((hgW22.block _ (Array.getElem?_eq_some_iff.1 ZtW21.out).1 (by simp <;> omega)).trans ZtW21.out)
                  have ZlW22 := Lib.hid ((hgW22.block _ (Array.getElem?_eq_some_iff.1 ZlW21.out).1 (by simp <;> omega)).trans ZlW21.out)
                  have ZhW22 := Lib.hid (show W22.heap[(bl + 1)]? = some (.cells #[.int .i64 un, .int .i64 ud] 49 (0, 0)) by rw [← hW22]; exact block_set 1 _ (block_set 0 _ (((below_gw W21 z6).block _ (Array.getElem?_eq_some_iff.1 ZhW21.out).1).trans ZhW21.out)))
                  have ZbW22 := Lib.hid ((hgW22.block _ (Array.getElem?_eq_some_iff.1 ZbW21.out).1 (by simp <;> omega)).trans ZbW21.out)
                  have HBW22 := Lib.hid (HBW21.out.grown hgW22 HBW21.out.size (fun g hg => by cases hg; omega))
                  have zsW22 := hgW22.size
                  have GBW22 := Lib.hid hgW22; clear hgW22
                  have HWW22 := Lib.hid hW22; clear hW22
                  rw [HWW22.out]
                  go_wp2_with fail
                  go_roundw
                  case rel => exact ⟨k + 1, by omega, by go_num, by rw [SUCC.out]; exact ⟨((KPv.out.trans (Keep2.grown GBW21.out (.inl rfl))).trans (Keep2.grown GBW22.out (.inr (.inl rfl)))), by rw [NL.out]; exact ZlW22.out, by rw [NH.out]; exact ZhW22.out⟩⟩
                  case measure => simp [intOf]; omega
          · obtain rfl : ns = k := by omega
            have hkk : ¬ (ns : Int) < (ns : Int) := by omega
            go_wp2_with fail
            go_roundw
            case rel => exact ⟨i + 1, by omega, by go_num, by rw [Nat.succ_mul]; exact hJ⟩
            case measure => simp [intOf]; omega
      · obtain rfl : nt = i := by omega
        have hii : ¬ (nt : Int) < (nt : Int) := by omega
        have HK := hJ.keep
        have Vp := Lib.hid ((HK.block _ (Array.getElem?_eq_some_iff.1 Zpwx.out).1 (by omega) (by omega)).trans Zpwx.out)
        have Vq := Lib.hid ((HK.block _ (Array.getElem?_eq_some_iff.1 Zqwx.out).1 (by omega) (by omega)).trans Zqwx.out)
        have Vl := Lib.hid hJ.lo
        have Vh := Lib.hid hJ.hi
        have HBV := Lib.hid (HK.low HBwx.out HBwx.out.size (by omega) (by omega))
        clear HK hJ
        obtain ⟨lo, hlo⟩ : ∃ x, rlowN f v (nt * ns) = x := ⟨_, rfl⟩
        obtain ⟨hg, hhg⟩ : ∃ x, rhighN f v (nt * ns) = x := ⟨_, rfl⟩
        rw [hlo] at Vl
        rw [hhg] at Vh
        have HLO := Lib.hid hlo
        have HHG := Lib.hid hhg
        clear hlo hhg
        obtain ⟨ln, ld⟩ := lo
        obtain ⟨hn, hd⟩ := hg
        dsimp only at Vl Vh
        have ep0wr : wr.cell? ⟨w.heap.size + 1 + 1 + 1, 0, none⟩ = some (.int .i64 0) := cell_of_block Vp.out 0 (by simp)
        have fp0wr := frozen_of_block Vp.out 0
        have ep1wr : wr.cell? ⟨w.heap.size + 1 + 1 + 1, 1, none⟩ = some (.int .i64 0) := cell_of_block Vp.out 1 (by simp)
        have fp1wr := frozen_of_block Vp.out 1
        have lpwr := (Array.getElem?_eq_some_iff.1 Vp.out).1
        have eq0wr : wr.cell? ⟨w.heap.size + 1 + 1 + 1 + 1, 0, none⟩ = some (.int .i64 0) := cell_of_block Vq.out 0 (by simp)
        have fq0wr := frozen_of_block Vq.out 0
        have eq1wr : wr.cell? ⟨w.heap.size + 1 + 1 + 1 + 1, 1, none⟩ = some (.int .i64 0) := cell_of_block Vq.out 1 (by simp)
        have fq1wr := frozen_of_block Vq.out 1
        have lqwr := (Array.getElem?_eq_some_iff.1 Vq.out).1
        have el0wr : wr.cell? ⟨bl, 0, none⟩ = some (.int .i64 ln) := cell_of_block Vl.out 0 (by simp)
        have el1wr : wr.cell? ⟨bl, 1, none⟩ = some (.int .i64 ld) := cell_of_block Vl.out 1 (by simp)
        have llwr := (Array.getElem?_eq_some_iff.1 Vl.out).1
        have eh0wr : wr.cell? ⟨(bl + 1), 0, none⟩ = some (.int .i64 hn) := cell_of_block Vh.out 0 (by simp)
        have eh1wr : wr.cell? ⟨(bl + 1), 1, none⟩ = some (.int .i64 hd) := cell_of_block Vh.out 1 (by simp)
        have lhwr := (Array.getElem?_eq_some_iff.1 Vh.out).1
        go_upto_region 15 with (fail)
        go_region
        go_wp2_with fail
        refine bodyPost_ret (v := .tuple #[.agg #[.int .i64 ln, .int .i64 ld], .agg #[.int .i64 hn, .int .i64 hd]]) (by simp [results, Tryz.results15, go_sem, *]) rfl ⟨by rw [HLO.out, HHG.out]; rfl, ?_⟩
        exact thru (below_drew _) (((((HBV.out).setCell (by simp <;> omega) _).setCell (by simp <;> omega) _).setCell (by simp <;> omega) _).setCell (by simp <;> omega) _)
end Go.Proofs.YtjgnafhbeekebaaGreat.L1
