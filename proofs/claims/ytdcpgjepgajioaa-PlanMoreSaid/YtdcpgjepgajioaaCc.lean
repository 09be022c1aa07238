/- Contracts of the reference's Left, keeps and Keeps. No conditions beyond each theorem's own. -/
import Derived.Test.YtdcpgjepgajioaaCb
set_option linter.unusedVariables false
set_option linter.unusedSimpArgs false
set_option linter.unusedSectionVars false
set_option linter.constructorNameAsVariable false
namespace Go.Proofs.Ytdcpgjepgajioaa
open Go.RowKit

attribute [local go_sem] gw_cell gw_frozen gw_size

theorem RunEnd.rebase {f : Nat → Int} {M : Nat → List Int} {m q : Nat} {w V w' : World} {e : Ending} (h : RunEnd f M m q V e w') (hb : Below w.heap.size w V) : RunEnd f M m q w e w' := by
  obtain ⟨a, c, h1, h2, h3⟩ := h
  exact ⟨a, c, h1, h2, hb.trans (h3.mono hb.size)⟩
theorem LeftEnd.of {o : Otl} {y : Lyg} {m i : Nat} {L : Nat → Int} {w w' : World} {e : Ending} (h0 : argE o y m L = 0) (h2 : inB (i : Int) 0 (o.nP - 1) = true) (h : RunEnd (o.errLo y i L) (fun t => (o.yrAt i L y.lot anyRoom (parLo o) t).1) m (upto (o.errLo y i L) m) w e w') : LeftEnd o y m L i w e w' := by
  obtain ⟨a, c, h3, h4, h5⟩ := h
  obtain ⟨l1, l2⟩ := left_ok h0 h2 rfl
  have hle := upto_le (o.errLo y i L) m
  rcases Nat.lt_or_ge (upto (o.errLo y i L) m) m with hlt | hge
  · obtain ⟨e1, e2⟩ := l2 hlt
    have ne := upto_stop (o.errLo y i L) m hlt
    have n1 : ¬ upto (o.errLo y i L) m = m := by omega
    have n2 : ¬ leftE o y m L i = 0 := by rw [e1]; exact ne
    rw [if_neg n1] at h3 h4
    refine ⟨a, c, ?_, ?_, h5⟩
    · rw [if_neg n2, e2, h3, e1, if_neg n1]
    · rw [if_neg n2, Int.toNat_natCast]; exact h4
  · have heq : upto (o.errLo y i L) m = m := by omega
    obtain ⟨e1, e2⟩ := l1 heq
    rw [heq] at h3 h4
    rw [if_pos rfl] at h3 h4
    refine ⟨a, c, ?_, ?_, h5⟩
    · rw [if_pos e1, e2, h3, e1, if_pos rfl]
    · rw [if_pos e1, Int.toNat_natCast]; exact h4
theorem LeftEnd.arg {o : Otl} {y : Lyg} {m : Nat} {L : Nat → Int} {path : Int} {w w' : World} (h : argE o y m L = 1) (hb : Below w.heap.size w w') : LeftEnd o y m L path w (.returned (.tuple #[.slice none 0 0, .int .i64 0, .int .i64 1])) w' := by
  have e1 : leftE o y m L path = 1 := if_pos h
  have e2 : leftY o y m L path = 0 := if_pos h
  refine ⟨none, 0, ?_, ?_, hb⟩
  · rw [e1, e2]; rfl
  · rw [e1]; exact RowsOf.nil _ _
theorem LeftEnd.rng {o : Otl} {y : Lyg} {m : Nat} {L : Nat → Int} {path : Int} {w w' : World} (h : argE o y m L = 0) (h2 : inB path 0 (o.nP - 1) = false) (hb : Below w.heap.size w w') : LeftEnd o y m L path w (.returned (.tuple #[.slice none 0 0, .int .i64 0, .int .i64 2])) w' := by
  have h1 : ¬ argE o y m L = 1 := by omega
  have e1 : leftE o y m L path = 2 := by unfold leftE; rw [if_neg h1, if_neg (by rw [h2]; decide)]
  have e2 : leftY o y m L path = 0 := by unfold leftY; rw [if_neg h1, if_neg (by rw [h2]; decide)]
  refine ⟨none, 0, ?_, ?_, hb⟩
  · rw [e1, e2]; rfl
  · rw [e1]; exact RowsOf.nil _ _
theorem argE_one {o : Otl} {y : Lyg} {m : Nat} {L : Nat → Int} (h : ¬ (outB o = true ∧ layB o y = true ∧ lotsB y m L = true)) : argE o y m L = 1 := if_neg h
/-- what a path asks for holds where all is valid -/
theorem run_ok {o : Otl} {y : Lyg} {m : Nat} {L : Nat → Int} (e1 : outB o = true) (e2 : layB o y = true) (e3 : lotsB y m L = true) {i : Nat} (hi : i < o.nP) : RunOk o i m L y.lot (parLo o) ∧ RunOk o i m L y.lot (parHi o) := by
  have LB := layB_t e2
  have TB := lotsB_t e3
  have OB := outB_t e1
  have hm : m = o.pN i := by rw [TB.1, LB.2.1, (OB.2.2.2.2.2.2.2.2.2 i hi).1]
  have hL : ∀ t, t < m → 0 ≤ L t ∧ L t ≤ 8 := fun t ht => by have := TB.2 t ht; have := LB.2.2.2.1 t (by omega); omega
  exact ⟨⟨e1, hi, hm, hL, LB.2.2.2.2.1, fun x hx => by have := par_rng (o := o) hx OB.2.2.1 OB.2.2.2.1 OB.2.2.2.2.1; omega⟩, ⟨e1, hi, hm, hL, LB.2.2.2.2.1, fun x hx => by have := par_rng (o := o) hx OB.2.2.1 OB.2.2.2.1 OB.2.2.2.2.1; omega⟩⟩

set_option maxRecDepth 100000 in
set_option maxHeartbeats 4000000 in
theorem rLeft_any (o : Otl) (y : Lyg) (aL : Option Addr) (m cL : Nat) (L : Nat → Int) (path : Int) (w : World) (hO : o.In w) (hfo : o.Fits) (hY : y.In w) (hfy : y.Fits) (hL : IntsAt w aL m L) (hm : m ≤ 9223372036854775807) :
    Calls Try.prog 12 #[o.val, y.val, .slice aL m cL, .int .i64 path] w (LeftEnd o y m L path w) := by
  unfold Otl.val Lyg.val
  obtain ⟨W1, hW1⟩ : ∃ W1, (w.alloc (.cells #[.slice o.aS o.nS o.cS, .int .i64 o.kl, .int .i64 o.kh, .slice o.aA o.nA o.cA, .slice o.aP o.nP o.cP] 27)).alloc (.cells #[.slice y.aR y.nR y.cR, .slice y.aM y.nM y.cM, .int .i64 y.lot, .int .i64 y.room] 29) = W1 := ⟨_, rfl⟩
  have hBc : Below w.heap.size w W1 := by rw [← hW1]; exact (below_alloc _ _).alloc (by simp) _
  have zc0 : W1.heap[w.heap.size]? = some (.cells #[.slice o.aS o.nS o.cS, .int .i64 o.kl, .int .i64 o.kh, .slice o.aA o.nA o.cA, .slice o.aP o.nP o.cP] 27 (0, 0)) := by rw [← hW1]; exact alloc_keep (alloc_at rfl)
  have zc1 : W1.heap[w.heap.size + 1]? = some (.cells #[.slice y.aR y.nR y.cR, .slice y.aM y.nM y.cM, .int .i64 y.lot, .int .i64 y.room] 29 (0, 0)) := by rw [← hW1]; exact alloc_at (by simp)
  have c00 : W1.cell? ⟨w.heap.size, 0, none⟩ = some (.slice o.aS o.nS o.cS) := cell_of_block zc0 0 (by simp)
  have c01 : W1.cell? ⟨w.heap.size, 1, none⟩ = some (.int .i64 o.kl) := cell_of_block zc0 1 (by simp)
  have c02 : W1.cell? ⟨w.heap.size, 2, none⟩ = some (.int .i64 o.kh) := cell_of_block zc0 2 (by simp)
  have c03 : W1.cell? ⟨w.heap.size, 3, none⟩ = some (.slice o.aA o.nA o.cA) := cell_of_block zc0 3 (by simp)
  have c04 : W1.cell? ⟨w.heap.size, 4, none⟩ = some (.slice o.aP o.nP o.cP) := cell_of_block zc0 4 (by simp)
  have c10 : W1.cell? ⟨w.heap.size + 1, 0, none⟩ = some (.slice y.aR y.nR y.cR) := cell_of_block zc1 0 (by simp)
  have c11 : W1.cell? ⟨w.heap.size + 1, 1, none⟩ = some (.slice y.aM y.nM y.cM) := cell_of_block zc1 1 (by simp)
  have c12 : W1.cell? ⟨w.heap.size + 1, 2, none⟩ = some (.int .i64 y.lot) := cell_of_block zc1 2 (by simp)
  have c13 : W1.cell? ⟨w.heap.size + 1, 3, none⟩ = some (.int .i64 y.room) := cell_of_block zc1 3 (by simp)
  have lc0 := (Array.getElem?_eq_some_iff.1 zc0).1
  have lc1 := (Array.getElem?_eq_some_iff.1 zc1).1
  clear zc0 zc1
  have HBc := Lib.hid hBc; clear hBc
  have HWc := Lib.hid hW1; clear hW1
  have HO := Lib.hid (hO.below HBc.out)
  have HY := Lib.hid (hY.below HBc.out)
  have HL := Lib.hid (hL.below HBc.out)
  have OL' := Lib.hid (fun W (hb : Below W1.heap.size W1 W) => rOutlook_any o W (HO.out.below hb) hfo)
  have HF := Lib.hid hfo
  have HFY := Lib.hid hfy
  clear hO hY hL hfo hfy
  unfold Otl.val at OL'
  cases e1 : outB o
  · have E1 := Lib.hid e1; clear e1
    rw [E1.out] at OL'
    have AE := Lib.hid (argE_one (o := o) (y := y) (m := m) (L := L) (by rw [E1.out]; simp))
    go_enter Try.func12, Try.ntmps12
    go_upto_region 1 with (fail)
    rw [HWc.out]
    go_wp2_with fail
    refine (Calls.grown (OL'.out W1 (Below.refl _ _))).mono ?_
    rintro e w1 ⟨rfl, z1, rfl⟩
    go_wp2_with fail
    refine bodyPost_ret (v := .tuple #[.slice none 0 0, .int .i64 0, .int .i64 1]) (by simp [results, Try.results12, go_sem, *]) rfl ?_
    exact LeftEnd.arg AE.out (HBc.out.gw z1)
  have E1 := Lib.hid e1; clear e1
  rw [E1.out] at OL'
  have LY' := Lib.hid (fun W (hb : Below W1.heap.size W1 W) => rLaying_any o y W (HO.out.below hb) (by have := outB_t E1.out; omega) (HF.out.pN 0 (by have := outB_t E1.out; omega)) (HY.out.below hb) HFY.out)
  unfold Otl.val Lyg.val at LY'
  cases e2 : layB o y
  · have E2 := Lib.hid e2; clear e2
    rw [E2.out] at LY'
    have AE := Lib.hid (argE_one (o := o) (y := y) (m := m) (L := L) (by rw [E2.out]; simp))
    go_enter Try.func12, Try.ntmps12
    go_upto_region 1 with (fail)
    rw [HWc.out]
    go_wp2_with fail
    refine (Calls.grown (OL'.out W1 (Below.refl _ _))).mono ?_
    rintro e w1 ⟨rfl, z1, rfl⟩
    go_wp2_with fail
    refine (Calls.gw_of (LY'.out _ (below_gw W1 z1))).mono ?_
    rintro e w1 ⟨rfl, z2, rfl⟩
    go_wp2_with fail
    refine bodyPost_ret (v := .tuple #[.slice none 0 0, .int .i64 0, .int .i64 1]) (by simp [results, Try.results12, go_sem, *]) rfl ?_
    exact LeftEnd.arg AE.out (HBc.out.gw z2)
  have E2 := Lib.hid e2; clear e2
  rw [E2.out] at LY'
  have LT' := Lib.hid (fun W (hb : Below W1.heap.size W1 W) => rLots_any y aL m cL L W (HY.out.below hb) HFY.out (HL.out.below hb) hm)
  unfold Lyg.val at LT'
  cases e3 : lotsB y m L
  · have E3 := Lib.hid e3; clear e3
    rw [E3.out] at LT'
    have AE := Lib.hid (argE_one (o := o) (y := y) (m := m) (L := L) (by rw [E3.out]; simp))
    go_enter Try.func12, Try.ntmps12
    go_upto_region 1 with (fail)
    rw [HWc.out]
    go_wp2_with fail
    refine (Calls.grown (OL'.out W1 (Below.refl _ _))).mono ?_
    rintro e w1 ⟨rfl, z1, rfl⟩
    go_wp2_with fail
    refine (Calls.gw_of (LY'.out _ (below_gw W1 z1))).mono ?_
    rintro e w1 ⟨rfl, z2, rfl⟩
    go_wp2_with fail
    refine (Calls.gw_of (LT'.out _ (below_gw W1 z2))).mono ?_
    rintro e w1 ⟨rfl, z3, rfl⟩
    go_wp2_with fail
    refine bodyPost_ret (v := .tuple #[.slice none 0 0, .int .i64 0, .int .i64 1]) (by simp [results, Try.results12, go_sem, *]) rfl ?_
    exact LeftEnd.arg AE.out (HBc.out.gw z3)
  have E3 := Lib.hid e3; clear e3
  rw [E3.out] at LT'
  have AE := Lib.hid (show argE o y m L = 0 from if_pos ⟨E1.out, E2.out, E3.out⟩)
  have oP := (outB_t E1.out).2.2.2.2.2.2.2.2.1
  cases h2 : inB path 0 (o.nP - 1)
  · have H2 := Lib.hid h2; clear h2
    go_enter Try.func12, Try.ntmps12
    go_upto_region 1 with (fail)
    rw [HWc.out]
    go_wp2_with fail
    refine (Calls.grown (OL'.out W1 (Below.refl _ _))).mono ?_
    rintro e w1 ⟨rfl, z1, rfl⟩
    go_wp2_with fail
    refine (Calls.gw_of (LY'.out _ (below_gw W1 z1))).mono ?_
    rintro e w1 ⟨rfl, z2, rfl⟩
    go_wp2_with fail
    refine (Calls.gw_of (LT'.out _ (below_gw W1 z2))).mono ?_
    rintro e w1 ⟨rfl, z3, rfl⟩
    go_wp2_with fail
    refine (rin_b path 0 (o.nP - 1) _ H2.out).mono ?_
    rintro e w1 ⟨rfl, rfl⟩
    go_wp2_with fail
    refine bodyPost_ret (v := .tuple #[.slice none 0 0, .int .i64 0, .int .i64 2]) (by simp [results, Try.results12, go_sem, *]) rfl ?_
    exact LeftEnd.rng AE.out H2.out (HBc.out.gw z3)
  have H2 := Lib.hid h2; clear h2
  obtain ⟨i, rfl⟩ : ∃ i : Nat, path = i := ⟨path.toNat, by have := inB_t.1 H2.out; omega⟩
  have hi : i < o.nP := by have := inB_t.1 H2.out; omega
  have RR := Lib.hid (fun z => rrun_lo o y aL m cL L i (gw W1 z) (run_ok E1.out E2.out E3.out hi).1 (HO.out.below (below_gw W1 z)) (HL.out.below (below_gw W1 z)))
  unfold Otl.val Lyg.val at RR
  go_enter Try.func12, Try.ntmps12
  go_upto_region 1 with (fail)
  rw [HWc.out]
  go_wp2_with fail
  refine (Calls.grown (OL'.out W1 (Below.refl _ _))).mono ?_
  rintro e w1 ⟨rfl, z1, rfl⟩
  go_wp2_with fail
  refine (Calls.gw_of (LY'.out _ (below_gw W1 z1))).mono ?_
  rintro e w1 ⟨rfl, z2, rfl⟩
  go_wp2_with fail
  refine (Calls.gw_of (LT'.out _ (below_gw W1 z2))).mono ?_
  rintro e w1 ⟨rfl, z3, rfl⟩
  go_wp2_with fail
  refine (rin_b i 0 (o.nP - 1) _ H2.out).mono ?_
  rintro e w1 ⟨rfl, rfl⟩
  go_wp2_with fail
  refine (RR.out z3).mono ?_
  rintro e w9 ⟨a, c, rfl, hr, hb⟩
  have HX := Lib.hid (LeftEnd.of AE.out H2.out (RunEnd.rebase ⟨a, c, rfl, hr, hb⟩ (HBc.out.gw z3)))
  clear hr hb
  obtain ⟨n1, hn1⟩ : ∃ n1, (if upto (o.errLo y i L) m = m then m else 0) = n1 := ⟨_, rfl⟩
  obtain ⟨n2, hn2⟩ : ∃ n2, (if upto (o.errLo y i L) m = m then 0 else o.errLo y i L (upto (o.errLo y i L) m)) = n2 := ⟨_, rfl⟩
  rw [hn1, hn2] at HX ⊢
  clear hn1 hn2
  go_wp2_with fail
  refine bodyPost_ret (v := .tuple #[.slice a n1 c, .int .i64 (upto (o.errLo y i L) m : Int), .int .i64 n2]) (by simp [results, Try.results12, go_sem, *]) rfl ?_
  exact HX.out

theorem RunEnd.bad {f : Nat → Int} {M : Nat → List Int} {m q : Nat} {w w' : World} {e : Ending} (h : RunEnd f M m q w e w') (hq : q < m) : ∃ a n c, e = .returned (.tuple #[.slice a n c, .int .i64 (q : Int), .int .i64 (f q)]) ∧ Below w.heap.size w w' := by
  obtain ⟨a, c, h1, h2, h3⟩ := h
  rw [if_neg (by omega), if_neg (by omega)] at h1
  exact ⟨a, 0, c, h1, h3⟩
theorem RunEnd.good {f : Nat → Int} {M : Nat → List Int} {m q : Nat} {w w' : World} {e : Ending} (h : RunEnd f M m q w e w') (hq : q = m) : ∃ a n c, e = .returned (.tuple #[.slice a n c, .int .i64 (m : Int), .int .i64 0]) ∧ Below w.heap.size w w' := by
  obtain ⟨a, c, h1, h2, h3⟩ := h
  subst hq
  rw [if_pos rfl, if_pos rfl] at h1
  exact ⟨a, q, c, h1, h3⟩
theorem keeps_at {o : Otl} {y : Lyg} {m k t : Nat} {L : Nat → Int} {v : Int} {w w' : World} (h0 : argE o y m L = 0) (hk : k < o.nP) (h1 : ∀ j, j < k → o.pathE y m L j = 0) (h2 : o.pathE y m L k = v) (hv : v ≠ 0) (h3 : o.pathY y m L k = t) (hb : Below w.heap.size w w') : KeepsEnd o y m L w (.returned (.tuple #[.int .i64 (k : Int), .int .i64 (t : Int), .int .i64 v])) w' := by
  have n1 : ¬ argE o y m L = 1 := by omega
  have e : keepN o y m L = k := (upto_unique (Nat.le_of_lt hk) h1 (fun _ => by rw [h2]; exact hv)).symm
  have n2 : ¬ k = o.nP := by omega
  refine ⟨?_, hb⟩
  unfold keepsP keepsY keepsE
  rw [if_neg n1, if_neg n1, if_neg n1, e, if_neg n2, if_neg n2, h2, h3]
theorem keeps_full {o : Otl} {y : Lyg} {m : Nat} {L : Nat → Int} {w w' : World} (h0 : argE o y m L = 0) (h1 : ∀ j, j < o.nP → o.pathE y m L j = 0) (hb : Below w.heap.size w w') : KeepsEnd o y m L w (.returned (.tuple #[.int .i64 (o.nP : Int), .int .i64 (m : Int), .int .i64 0])) w' := by
  have n1 : ¬ argE o y m L = 1 := by omega
  have e : keepN o y m L = o.nP := (upto_unique (Nat.le_refl _) h1 (fun h => absurd h (Nat.lt_irrefl _))).symm
  refine ⟨?_, hb⟩
  unfold keepsP keepsY keepsE
  rw [if_neg n1, if_neg n1, if_neg n1, e, if_pos rfl, if_pos rfl]

set_option maxRecDepth 100000 in
set_option maxHeartbeats 4000000 in
theorem rkeeps_any (o : Otl) (y : Lyg) (aL : Option Addr) (m cL : Nat) (L : Nat → Int) (w : World) (hO : o.In w) (hY : y.In w) (hL : IntsAt w aL m L) (e1 : outB o = true) (e2 : layB o y = true) (e3 : lotsB y m L = true) :
    Calls Try.prog 41 #[o.val, y.val, .slice aL m cL] w (KeepsEnd o y m L w) := by
  unfold Otl.val Lyg.val
  obtain ⟨W1, hW1⟩ : ∃ W1, (w.alloc (.cells #[.slice o.aS o.nS o.cS, .int .i64 o.kl, .int .i64 o.kh, .slice o.aA o.nA o.cA, .slice o.aP o.nP o.cP] 27)).alloc (.cells #[.slice y.aR y.nR y.cR, .slice y.aM y.nM y.cM, .int .i64 y.lot, .int .i64 y.room] 29) = W1 := ⟨_, rfl⟩
  have hBc : Below w.heap.size w W1 := by rw [← hW1]; exact (below_alloc _ _).alloc (by simp) _
  have zc0 : W1.heap[w.heap.size]? = some (.cells #[.slice o.aS o.nS o.cS, .int .i64 o.kl, .int .i64 o.kh, .slice o.aA o.nA o.cA, .slice o.aP o.nP o.cP] 27 (0, 0)) := by rw [← hW1]; exact alloc_keep (alloc_at rfl)
  have zc1 : W1.heap[w.heap.size + 1]? = some (.cells #[.slice y.aR y.nR y.cR, .slice y.aM y.nM y.cM, .int .i64 y.lot, .int .i64 y.room] 29 (0, 0)) := by rw [← hW1]; exact alloc_at (by simp)
  have c00 : W1.cell? ⟨w.heap.size, 0, none⟩ = some (.slice o.aS o.nS o.cS) := cell_of_block zc0 0 (by simp)
  have c01 : W1.cell? ⟨w.heap.size, 1, none⟩ = some (.int .i64 o.kl) := cell_of_block zc0 1 (by simp)
  have c02 : W1.cell? ⟨w.heap.size, 2, none⟩ = some (.int .i64 o.kh) := cell_of_block zc0 2 (by simp)
  have c03 : W1.cell? ⟨w.heap.size, 3, none⟩ = some (.slice o.aA o.nA o.cA) := cell_of_block zc0 3 (by simp)
  have c04 : W1.cell? ⟨w.heap.size, 4, none⟩ = some (.slice o.aP o.nP o.cP) := cell_of_block zc0 4 (by simp)
  have c10 : W1.cell? ⟨w.heap.size + 1, 0, none⟩ = some (.slice y.aR y.nR y.cR) := cell_of_block zc1 0 (by simp)
  have c11 : W1.cell? ⟨w.heap.size + 1, 1, none⟩ = some (.slice y.aM y.nM y.cM) := cell_of_block zc1 1 (by simp)
  have c12 : W1.cell? ⟨w.heap.size + 1, 2, none⟩ = some (.int .i64 y.lot) := cell_of_block zc1 2 (by simp)
  have c13 : W1.cell? ⟨w.heap.size + 1, 3, none⟩ = some (.int .i64 y.room) := cell_of_block zc1 3 (by simp)
  have lc0 := (Array.getElem?_eq_some_iff.1 zc0).1
  have lc1 := (Array.getElem?_eq_some_iff.1 zc1).1
  have Zc0 := Lib.hid zc0
  have Zc1 := Lib.hid zc1
  clear zc0 zc1
  have HBc := Lib.hid hBc; clear hBc
  have HWc := Lib.hid hW1; clear hW1
  have HO := Lib.hid (hO.below HBc.out)
  have HY := Lib.hid (hY.below HBc.out)
  have HL := Lib.hid (hL.below HBc.out)
  have E1 := Lib.hid e1; have E2 := Lib.hid e2; have E3 := Lib.hid e3
  have AE := Lib.hid (show argE o y m L = 0 from if_pos ⟨e1, e2, e3⟩)
  have nP8 : o.nP ≤ 8 := (outB_t e1).2.2.2.2.2.2.2.2.1.2
  have m10 : m ≤ 10 := by have a := (outB_t e1).2.2.2.2.2.2.2.2; have := (layB_t e2).2.1; have := (lotsB_t e3).1; have := (a.2 0 (by omega)).2.1; omega
  clear hO hY hL e1 e2 e3 c00 c01 c02 c03 c04 c10 c11 c12 c13
  go_enter Try.func41, Try.ntmps41
  go_upto_region 1 with (fail)
  rw [HWc.out]
  go_wp2_with fail
  go_loopw [9] (fun s wr => ∃ k : Nat, k ≤ o.nP ∧ s = .int .i64 (k : Int) ∧ Hid (∀ j, j < k → o.pathE y m L j = 0) ∧ Hid (Below W1.heap.size W1 wr)) (fun s _ => o.nP - (intOf s).toNat)
  case atStart => exact ⟨0, Nat.zero_le _, rfl, Lib.hid (fun j hj => absurd hj (Nat.not_lt_zero j)), Lib.hid (Below.refl _ _)⟩
  case round =>
    obtain ⟨k, hk, rfl, HE, HW⟩ := hrel
    obtain ⟨V, rfl⟩ : ∃ V : World, V = wr := ⟨_, rfl⟩
    have b0 := Lib.hid ((HW.out.block _ lc0).trans Zc0.out)
    have b1 := Lib.hid ((HW.out.block _ lc1).trans Zc1.out)
    have x00 : V.cell? ⟨w.heap.size, 0, none⟩ = some (.slice o.aS o.nS o.cS) := cell_of_block b0.out 0 (by simp)
    have x01 : V.cell? ⟨w.heap.size, 1, none⟩ = some (.int .i64 o.kl) := cell_of_block b0.out 1 (by simp)
    have x02 : V.cell? ⟨w.heap.size, 2, none⟩ = some (.int .i64 o.kh) := cell_of_block b0.out 2 (by simp)
    have x03 : V.cell? ⟨w.heap.size, 3, none⟩ = some (.slice o.aA o.nA o.cA) := cell_of_block b0.out 3 (by simp)
    have x04 : V.cell? ⟨w.heap.size, 4, none⟩ = some (.slice o.aP o.nP o.cP) := cell_of_block b0.out 4 (by simp)
    have x10 : V.cell? ⟨w.heap.size + 1, 0, none⟩ = some (.slice y.aR y.nR y.cR) := cell_of_block b1.out 0 (by simp)
    have x11 : V.cell? ⟨w.heap.size + 1, 1, none⟩ = some (.slice y.aM y.nM y.cM) := cell_of_block b1.out 1 (by simp)
    have x12 : V.cell? ⟨w.heap.size + 1, 2, none⟩ = some (.int .i64 y.lot) := cell_of_block b1.out 2 (by simp)
    have x13 : V.cell? ⟨w.heap.size + 1, 3, none⟩ = some (.int .i64 y.room) := cell_of_block b1.out 3 (by simp)
    have lx0 := (Array.getElem?_eq_some_iff.1 b0.out).1
    have lx1 := (Array.getElem?_eq_some_iff.1 b1.out).1
    by_cases hlt : k < o.nP
    · have hk1 : (k : Int) < (o.nP : Int) := by omega
      obtain ⟨q1, hq1⟩ : ∃ q1, upto (o.errLo y k L) m = q1 := ⟨_, rfl⟩
      obtain ⟨q2, hq2⟩ : ∃ q2, upto (o.errHi y k L) m = q2 := ⟨_, rfl⟩
      have le1 : q1 ≤ m := by rw [← hq1]; exact upto_le _ _
      have le2 : q2 ≤ m := by rw [← hq2]; exact upto_le _ _
      have st1 := Lib.hid (show q1 < m → o.errLo y k L q1 ≠ 0 by intro h; have := upto_stop (o.errLo y k L) m (by rw [hq1]; exact h); rw [hq1] at this; exact this)
      have st2 := Lib.hid (show q2 < m → o.errHi y k L q2 ≠ 0 by intro h; have := upto_stop (o.errHi y k L) m (by rw [hq2]; exact h); rw [hq2] at this; exact this)
      have PE := Lib.hid (show o.pathE y m L k = if q1 < m then o.errLo y k L q1 else if q2 < m then o.errHi y k L q2 else 0 by unfold Otl.pathE; rw [hq1, hq2])
      have PY := Lib.hid (show o.pathY y m L k = if q1 < m then q1 else q2 by unfold Otl.pathY; rw [hq1, hq2])
      have R1 := Lib.hid (rrun_lo o y aL m cL L k V (run_ok E1.out E2.out E3.out hlt).1 (HO.out.below HW.out) (HL.out.below HW.out))
      have R2 := Lib.hid (fun z => rrun_hi o y aL m cL L k (gw V z) (run_ok E1.out E2.out E3.out hlt).2 (HO.out.below (thru (below_gw V z) HW.out)) (HL.out.below (thru (below_gw V z) HW.out)))
      rw [hq1] at R1
      rw [hq2] at R2
      unfold Otl.val Lyg.val at R1 R2
      have HLT := Lib.hid hlt
      clear hq1 hq2
      by_cases g1 : q1 < m
      · have P1 := Lib.hid (PE.out.trans (if_pos g1))
        have P2 := Lib.hid (PY.out.trans (if_pos g1))
        have hv := st1.out g1
        obtain ⟨v, hv9⟩ : ∃ v, o.errLo y k L q1 = v := ⟨_, rfl⟩
        have d0 : (v != 0) = true := by rw [← hv9]; simpa using hv
        have R1 := Lib.hid (R1.out.mono (fun e w9 h => h.bad g1))
        rw [hv9] at R1 P1 hv
        have HV := Lib.hid hv
        clear hv9 hv g1
        go_wp2_with fail
        refine R1.out.mono ?_
        rintro e w9 ⟨a, n, c, rfl, hb⟩
        have HB9 := Lib.hid hb; clear hb
        go_wp2_with fail
        refine bodyPost_ret (v := .tuple #[.int .i64 (k : Int), .int .i64 (q1 : Int), .int .i64 v]) (by simp [results, Try.results41, go_sem, *]) rfl ?_
        exact keeps_at AE.out HLT.out HE.out P1.out HV.out P2.out (HBc.out.trans ((HW.out.trans (HB9.out.mono HW.out.size)).mono HBc.out.size))
      have q1m : q1 = m := by omega
      have PE1 := Lib.hid (PE.out.trans (if_neg g1))
      have PY1 := Lib.hid (PY.out.trans (if_neg g1))
      have R1 := Lib.hid (R1.out.mono (fun e w9 h => h.good q1m))
      clear g1 q1m
      by_cases g2 : q2 < m
      · have P1 := Lib.hid (PE1.out.trans (if_pos g2))
        have hv := st2.out g2
        obtain ⟨v, hv9⟩ : ∃ v, o.errHi y k L q2 = v := ⟨_, rfl⟩
        have d0 : (v != 0) = true := by rw [← hv9]; simpa using hv
        have R2 := Lib.hid (fun z => (R2.out z).mono (fun e w9 h => h.bad g2))
        rw [hv9] at R2 P1 hv
        have HV := Lib.hid hv
        clear hv9 hv g2
        go_wp2_with fail
        refine R1.out.mono ?_
        rintro e w9 ⟨a, n, c, rfl, hb⟩
        obtain ⟨z, rfl⟩ := gw_of_below hb
        clear hb
        go_wp2_with fail
        refine (R2.out z).mono ?_
        rintro e w9 ⟨a2, n2, c2, rfl, hb⟩
        have HB9 := Lib.hid (thru hb (below_gw V z)); clear hb
        go_wp2_with fail
        refine bodyPost_ret (v := .tuple #[.int .i64 (k : Int), .int .i64 (q2 : Int), .int .i64 v]) (by simp [results, Try.results41, go_sem, *]) rfl ?_
        exact keeps_at AE.out HLT.out HE.out P1.out HV.out PY1.out (HBc.out.trans ((HW.out.trans (HB9.out.mono HW.out.size)).mono HBc.out.size))
      have P1 := Lib.hid (PE1.out.trans (if_neg g2))
      have q2m : q2 = m := by omega
      have R2 := Lib.hid (fun z => (R2.out z).mono (fun e w9 h => h.good q2m))
      clear g2 q2m
      go_wp2_with fail
      refine R1.out.mono ?_
      rintro e w9 ⟨a, n, c, rfl, hb⟩
      obtain ⟨z, rfl⟩ := gw_of_below hb
      clear hb
      go_wp2_with fail
      refine (R2.out z).mono ?_
      rintro e w9 ⟨a2, n2, c2, rfl, hb⟩
      have HB9 := Lib.hid (thru hb (below_gw V z)); clear hb
      go_wp2_with fail
      go_roundw
      case rel => exact ⟨k + 1, HLT.out, by have := HLT.out; go_num, Lib.hid (fun j hj => by rcases Nat.lt_succ_iff_lt_or_eq.1 hj with h | h; exact HE.out j h; rw [h]; exact P1.out), Lib.hid (HW.out.trans (HB9.out.mono HW.out.size))⟩
      case measure => have := HLT.out; simp only [intOf]; omega
    · have hkn : k = o.nP := by omega
      have HKN := Lib.hid hkn; clear hkn
      go_wp2_with fail
      refine bodyPost_ret (v := .tuple #[.int .i64 (o.nP : Int), .int .i64 (m : Int), .int .i64 0]) (by simp [results, Try.results41, go_sem, *]) rfl ?_
      exact keeps_full AE.out (by rw [← HKN.out]; exact HE.out) (HBc.out.trans (HW.out.mono HBc.out.size))

theorem keeps_arg {o : Otl} {y : Lyg} {m : Nat} {L : Nat → Int} {w w' : World} (h : argE o y m L = 1) (hb : Below w.heap.size w w') : KeepsEnd o y m L w (.returned (.tuple #[.int .i64 0, .int .i64 0, .int .i64 1])) w' := by
  refine ⟨?_, hb⟩
  unfold keepsP keepsY keepsE
  rw [if_pos h, if_pos h, if_pos h]
  rfl

set_option maxRecDepth 100000 in
set_option maxHeartbeats 4000000 in
theorem rKeeps_any (o : Otl) (y : Lyg) (aL : Option Addr) (m cL : Nat) (L : Nat → Int) (w : World) (hO : o.In w) (hfo : o.Fits) (hY : y.In w) (hfy : y.Fits) (hL : IntsAt w aL m L) (hm : m ≤ 9223372036854775807) :
    Calls Try.prog 14 #[o.val, y.val, .slice aL m cL] w (KeepsEnd o y m L w) := by
  unfold Otl.val Lyg.val
  obtain ⟨W1, hW1⟩ : ∃ W1, (w.alloc (.cells #[.slice o.aS o.nS o.cS, .int .i64 o.kl, .int .i64 o.kh, .slice o.aA o.nA o.cA, .slice o.aP o.nP o.cP] 27)).alloc (.cells #[.slice y.aR y.nR y.cR, .slice y.aM y.nM y.cM, .int .i64 y.lot, .int .i64 y.room] 29) = W1 := ⟨_, rfl⟩
  have hBc : Below w.heap.size w W1 := by rw [← hW1]; exact (below_alloc _ _).alloc (by simp) _
  have zc0 : W1.heap[w.heap.size]? = some (.cells #[.slice o.aS o.nS o.cS, .int .i64 o.kl, .int .i64 o.kh, .slice o.aA o.nA o.cA, .slice o.aP o.nP o.cP] 27 (0, 0)) := by rw [← hW1]; exact alloc_keep (alloc_at rfl)
  have zc1 : W1.heap[w.heap.size + 1]? = some (.cells #[.slice y.aR y.nR y.cR, .slice y.aM y.nM y.cM, .int .i64 y.lot, .int .i64 y.room] 29 (0, 0)) := by rw [← hW1]; exact alloc_at (by simp)
  have c00 : W1.cell? ⟨w.heap.size, 0, none⟩ = some (.slice o.aS o.nS o.cS) := cell_of_block zc0 0 (by simp)
  have c01 : W1.cell? ⟨w.heap.size, 1, none⟩ = some (.int .i64 o.kl) := cell_of_block zc0 1 (by simp)
  have c02 : W1.cell? ⟨w.heap.size, 2, none⟩ = some (.int .i64 o.kh) := cell_of_block zc0 2 (by simp)
  have c03 : W1.cell? ⟨w.heap.size, 3, none⟩ = some (.slice o.aA o.nA o.cA) := cell_of_block zc0 3 (by simp)
  have c04 : W1.cell? ⟨w.heap.size, 4, none⟩ = some (.slice o.aP o.nP o.cP) := cell_of_block zc0 4 (by simp)
  have c10 : W1.cell? ⟨w.heap.size + 1, 0, none⟩ = some (.slice y.aR y.nR y.cR) := cell_of_block zc1 0 (by simp)
  have c11 : W1.cell? ⟨w.heap.size + 1, 1, none⟩ = some (.slice y.aM y.nM y.cM) := cell_of_block zc1 1 (by simp)
  have c12 : W1.cell? ⟨w.heap.size + 1, 2, none⟩ = some (.int .i64 y.lot) := cell_of_block zc1 2 (by simp)
  have c13 : W1.cell? ⟨w.heap.size + 1, 3, none⟩ = some (.int .i64 y.room) := cell_of_block zc1 3 (by simp)
  have lc0 := (Array.getElem?_eq_some_iff.1 zc0).1
  have lc1 := (Array.getElem?_eq_some_iff.1 zc1).1
  clear zc0 zc1
  have HBc := Lib.hid hBc; clear hBc
  have HWc := Lib.hid hW1; clear hW1
  have HO := Lib.hid (hO.below HBc.out)
  have HY := Lib.hid (hY.below HBc.out)
  have HL := Lib.hid (hL.below HBc.out)
  have OL' := Lib.hid (fun W (hb : Below W1.heap.size W1 W) => rOutlook_any o W (HO.out.below hb) hfo)
  have HF := Lib.hid hfo
  have HFY := Lib.hid hfy
  clear hO hY hL hfo hfy
  unfold Otl.val at OL'
  cases e1 : outB o
  · have E1 := Lib.hid e1; clear e1
    rw [E1.out] at OL'
    have AE := Lib.hid (argE_one (o := o) (y := y) (m := m) (L := L) (by rw [E1.out]; simp))
    go_enter Try.func14, Try.ntmps14
    go_upto_region 1 with (fail)
    rw [HWc.out]
    go_wp2_with fail
    refine (Calls.grown (OL'.out W1 (Below.refl _ _))).mono ?_
    rintro e w1 ⟨rfl, z1, rfl⟩
    go_wp2_with fail
    refine bodyPost_ret (v := .tuple #[.int .i64 0, .int .i64 0, .int .i64 1]) (by simp [results, Try.results14, go_sem, *]) rfl ?_
    exact keeps_arg AE.out (HBc.out.gw z1)
  have E1 := Lib.hid e1; clear e1
  rw [E1.out] at OL'
  have LY' := Lib.hid (fun W (hb : Below W1.heap.size W1 W) => rLaying_any o y W (HO.out.below hb) (by have := outB_t E1.out; omega) (HF.out.pN 0 (by have := outB_t E1.out; omega)) (HY.out.below hb) HFY.out)
  unfold Otl.val Lyg.val at LY'
  cases e2 : layB o y
  · have E2 := Lib.hid e2; clear e2
    rw [E2.out] at LY'
    have AE := Lib.hid (argE_one (o := o) (y := y) (m := m) (L := L) (by rw [E2.out]; simp))
    go_enter Try.func14, Try.ntmps14
    go_upto_region 1 with (fail)
    rw [HWc.out]
    go_wp2_with fail
    refine (Calls.grown (OL'.out W1 (Below.refl _ _))).mono ?_
    rintro e w1 ⟨rfl, z1, rfl⟩
    go_wp2_with fail
    refine (Calls.gw_of (LY'.out _ (below_gw W1 z1))).mono ?_
    rintro e w1 ⟨rfl, z2, rfl⟩
    go_wp2_with fail
    refine bodyPost_ret (v := .tuple #[.int .i64 0, .int .i64 0, .int .i64 1]) (by simp [results, Try.results14, go_sem, *]) rfl ?_
    exact keeps_arg AE.out (HBc.out.gw z2)
  have E2 := Lib.hid e2; clear e2
  rw [E2.out] at LY'
  have LT' := Lib.hid (fun W (hb : Below W1.heap.size W1 W) => rLots_any y aL m cL L W (HY.out.below hb) HFY.out (HL.out.below hb) hm)
  unfold Lyg.val at LT'
  cases e3 : lotsB y m L
  · have E3 := Lib.hid e3; clear e3
    rw [E3.out] at LT'
    have AE := Lib.hid (argE_one (o := o) (y := y) (m := m) (L := L) (by rw [E3.out]; simp))
    go_enter Try.func14, Try.ntmps14
    go_upto_region 1 with (fail)
    rw [HWc.out]
    go_wp2_with fail
    refine (Calls.grown (OL'.out W1 (Below.refl _ _))).mono ?_
    rintro e w1 ⟨rfl, z1, rfl⟩
    go_wp2_with fail
    refine (Calls.gw_of (LY'.out _ (below_gw W1 z1))).mono ?_
    rintro e w1 ⟨rfl, z2, rfl⟩
    go_wp2_with fail
    refine (Calls.gw_of (LT'.out _ (below_gw W1 z2))).mono ?_
    rintro e w1 ⟨rfl, z3, rfl⟩
    go_wp2_with fail
    refine bodyPost_ret (v := .tuple #[.int .i64 0, .int .i64 0, .int .i64 1]) (by simp [results, Try.results14, go_sem, *]) rfl ?_
    exact keeps_arg AE.out (HBc.out.gw z3)
  have E3 := Lib.hid e3; clear e3
  rw [E3.out] at LT'
  have AE := Lib.hid (show argE o y m L = 0 from if_pos ⟨E1.out, E2.out, E3.out⟩)
  have RR := Lib.hid (fun z => rkeeps_any o y aL m cL L (gw W1 z) (HO.out.below (below_gw W1 z)) (HY.out.below (below_gw W1 z)) (HL.out.below (below_gw W1 z)) E1.out E2.out E3.out)
  unfold Otl.val Lyg.val at RR
  go_enter Try.func14, Try.ntmps14
  go_upto_region 1 with (fail)
  rw [HWc.out]
  go_wp2_with fail
  refine (Calls.grown (OL'.out W1 (Below.refl _ _))).mono ?_
  rintro e w1 ⟨rfl, z1, rfl⟩
  go_wp2_with fail
  refine (Calls.gw_of (LY'.out _ (below_gw W1 z1))).mono ?_
  rintro e w1 ⟨rfl, z2, rfl⟩
  go_wp2_with fail
  refine (Calls.gw_of (LT'.out _ (below_gw W1 z2))).mono ?_
  rintro e w1 ⟨rfl, z3, rfl⟩
  go_wp2_with fail
  refine (RR.out z3).mono ?_
  rintro e w9 ⟨rfl, hb⟩
  have HX := Lib.hid (HBc.out.trans ((thru hb (below_gw W1 z3)).mono HBc.out.size))
  clear hb
  obtain ⟨n1, hn1⟩ : ∃ n1, keepsP o y m L = n1 := ⟨_, rfl⟩
  obtain ⟨n2, hn2⟩ : ∃ n2, keepsY o y m L = n2 := ⟨_, rfl⟩
  obtain ⟨n3, hn3⟩ : ∃ n3, keepsE o y m L = n3 := ⟨_, rfl⟩
  rw [hn1, hn2, hn3]
  have H1 := Lib.hid hn1; have H2 := Lib.hid hn2; have H3 := Lib.hid hn3
  clear hn1 hn2 hn3
  go_wp2_with fail
  refine bodyPost_ret (v := .tuple #[.int .i64 (n1 : Int), .int .i64 (n2 : Int), .int .i64 n3]) (by simp [results, Try.results14, go_sem, *]) rfl ?_
  exact ⟨by rw [H1.out, H2.out, H3.out], HX.out⟩
end Go.Proofs.Ytdcpgjepgajioaa
