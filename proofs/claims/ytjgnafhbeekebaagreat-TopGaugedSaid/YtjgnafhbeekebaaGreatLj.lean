/- Contract of Mix. Plain laws: what a true strength shows, and what is read of it. Plain laws: what was measured contains what is true. How the arguments of the laws read: parts, lists of parts, tables. Plain laws of narrower spans; the closures of StrengthNarrower; an array of six numbers. No conditions beyond each theorem's own. -/
import Derived.Test.YtjgnafhbeekebaaGreatLb
import Derived.Test.YtjgnafhbeekebaaGreatLg
import Derived.Test.YtjgnafhbeekebaaGreatLh
import Derived.Test.YtjgnafhbeekebaaGreatSn
import Derived.Test.YtjgnafhbeekebaaGreatSq
import Derived.Test.YtjgnafhbeekebaaGreatLi
import Derived.Test.YtjgnafhbeekebaaGreatAz
import Derived.Test.YtjgnafhbeekebaaGreatLc
import Derived.Test.YtjgnafhbeekebaaGreatLa
import Derived.Laws.IdiomArrays
set_option linter.unusedVariables false
set_option linter.unusedSimpArgs false
set_option linter.unusedSectionVars false
set_option linter.constructorNameAsVariable false
namespace Go.Proofs.YtjgnafhbeekebaaGreat.L1
open Go.RowKit
open Go.Proofs.YtjgnafhbeekebaaGreat

attribute [local go_sem] gw_cell gw_frozen gw_size

theorem run_minI {Q : Program} (w : World) (ts : Array TypeId) (t : TypeId) (k k' : IntKind) (x y : Int) : (Builtin.min_ ts t #[.int k x, .int k' y]).run Q w = .ok (.int k (min x y)) w := by rw [run_minZ, minZ_eq]
attribute [local go_sem ↓] run_minI

end Go.Proofs.YtjgnafhbeekebaaGreat.L1

namespace Go.Proofs.YtjgnafhbeekebaaGreat.L1
open Go.RowKit
open Go.Proofs.YtjgnafhbeekebaaGreat

attribute [local go_sem] gw_cell gw_frozen gw_size

section
variable {t : Tab} {tlo thi x y lo hi : Int}
/-- the value at a point is what is least and greatest there -/
theorem low_point (g : t.Good) (m : Rows) : t.low m y y x x = t.valM m x y := by
  obtain ⟨a, b, ha, hb, e⟩ := (lowP_is (M := m.M) (tlo := x) (thi := x) (slo := y) (shi := y) g.ok.rT g.ok.rS g.ok.t2 g.ok.s2).at_
  rw [mark_one ha, mark_one hb] at e
  exact e
theorem high_point (g : t.Good) (m : Rows) : t.high m y y x x = t.valM m x y := by
  obtain ⟨a, b, ha, hb, e⟩ := (highP_is (M := m.M) (tlo := x) (thi := x) (slo := y) (shi := y) g.ok.rT g.ok.rS g.ok.t2 g.ok.s2).at_
  rw [mark_one ha, mark_one hb] at e
  exact e
theorem hval_d (g : t.Good) (m : Rows) (x y : Int) : 1 ≤ (t.valM m x y).d := valF_d g.ok.rT g.ok.rS g.ok.t2 g.ok.s2 x y
theorem low_all (g : t.Good) (m : Rows) (ft : t.tb.FitT tlo thi) {slo shi : Int} (fs : t.tb.FitS slo shi) (x0 : tlo ≤ x) (x1 : x ≤ thi) (y0 : slo ≤ y) (y1 : y ≤ shi) : leF (t.low m slo shi tlo thi) (t.valM m x y) :=
  (lowP_is (M := m.M) g.ok.rT g.ok.rS g.ok.t2 g.ok.s2).all g.ok.rT g.ok.rS g.ok.t2 g.ok.s2 ft.a ft.c fs.a fs.c x0 x1 y0 y1
theorem high_all (g : t.Good) (m : Rows) (ft : t.tb.FitT tlo thi) {slo shi : Int} (fs : t.tb.FitS slo shi) (x0 : tlo ≤ x) (x1 : x ≤ thi) (y0 : slo ≤ y) (y1 : y ≤ shi) : leF (t.valM m x y) (t.high m slo shi tlo thi) :=
  (highP_is (M := m.M) g.ok.rT g.ok.rS g.ok.t2 g.ok.s2).all g.ok.rT g.ok.rS g.ok.t2 g.ok.s2 ft.a ft.c fs.a fs.c x0 x1 y0 y1
theorem low_d (g : t.Good) (m : Rows) (slo shi tlo thi : Int) : 1 ≤ (t.low m slo shi tlo thi).d := (lowP_is (M := m.M) g.ok.rT g.ok.rS g.ok.t2 g.ok.s2).d g.ok.rT g.ok.rS g.ok.t2 g.ok.s2
theorem high_d (g : t.Good) (m : Rows) (slo shi tlo thi : Int) : 1 ≤ (t.high m slo shi tlo thi).d := (highP_is (M := m.M) g.ok.rT g.ok.rS g.ok.t2 g.ok.s2).d g.ok.rT g.ok.rS g.ok.t2 g.ok.s2
theorem hval_range (g : t.Good) (x0 : t.T 0 ≤ x) (x1 : x ≤ t.T (t.nT - 1)) (y0 : t.S 0 ≤ y) (y1 : y ≤ t.S (t.nS - 1)) : -10000 ≤ (t.valM t.H x y).flr ∧ (t.valM t.H x y).cei ≤ 20000 := by
  obtain ⟨a, b⟩ := val_range (M := t.H.M) g.ok.rT g.ok.rS g.ok.t2 g.ok.s2 x0 x1 y0 y1 g.ok.bH
  exact ⟨(ofI_le (hval_d g t.H x y)).1 a, (le_ofI (hval_d g t.H x y)).1 b⟩
theorem rval_range (g : t.Good) (x0 : t.T 0 ≤ x) (x1 : x ≤ t.T (t.nT - 1)) (y0 : t.S 0 ≤ y) (y1 : y ≤ t.S (t.nS - 1)) : 900000 ≤ (t.valM t.R x y).flr ∧ (t.valM t.R x y).cei ≤ 1100000 := by
  obtain ⟨a, b⟩ := val_range (M := t.R.M) g.ok.rT g.ok.rS g.ok.t2 g.ok.s2 x0 x1 y0 y1 g.ok.bR
  exact ⟨(ofI_le (hval_d g t.R x y)).1 a, (le_ofI (hval_d g t.R x y)).1 b⟩
/-- where a true strength is, if what is shown is within what it shows -/
theorem str_true (g : t.Good) (hok : t.okB = true) (hT : t.fitT tlo thi = true) (x0 : tlo ≤ x) (x1 : x ≤ thi) (y0 : t.S 0 ≤ y) (y1 : y ≤ t.S (t.nS - 1)) (h0 : lo ≤ (t.valM t.H x y).flr) (h1 : (t.valM t.H x y).cei ≤ hi) :
    t.strE lo hi tlo thi = 0 ∧ t.strL lo hi tlo thi ≤ y ∧ y ≤ t.strH lo hi tlo thi ∧ t.tb.FitS (t.strL lo hi tlo thi) (t.strH lo hi tlo thi) := by
  have ft := Tab.fitT_t hT
  have fs : t.tb.FitS y y := ⟨y0, Int.le_refl _, y1⟩
  have d := hval_d g t.H x y
  have fc := flr_le_cei d
  have hd1 : (1 : Int) ≤ (ofI lo).d := by show (1 : Int) ≤ 1; omega
  have hd2 : (1 : Int) ≤ (ofI hi).d := by show (1 : Int) ≤ 1; omega
  have a : leF (ofI lo) (t.tb.seeH tlo thi y) := leF_trans hd1 d (g.ok.seeH_d _ _ _) ((ofI_le d).2 h0) (high_all g t.H ft fs x0 x1 (Int.le_refl _) (Int.le_refl _))
  have b : leF (t.tb.seeL tlo thi y) (ofI hi) := leF_trans (g.ok.seeL_d _ _ _) d hd2 (low_all g t.H ft fs x0 x1 (Int.le_refl _) (Int.le_refl _)) ((le_ofI d).2 h1)
  obtain ⟨n, f, p⟩ := g.ok.str_has ft y0 y1 a b
  have e := Tab.strE_ok hok (show lo ≤ hi by omega) hT n
  have eL : t.strL lo hi tlo thi = t.tb.strLo lo tlo thi := if_pos e
  have eH : t.strH lo hi tlo thi = t.tb.strHi hi tlo thi := if_pos e
  have l1 := Tb.strLo_le (t := t.tb) (lo := lo) (tlo := tlo) (thi := thi)
  have l2 := Tb.le_strHi (t := t.tb) (hi := hi) (tlo := tlo) (thi := thi)
  have l3 := Tb.strHi_last n
  refine ⟨e, by omega, by omega, ⟨?_, ?_, ?_⟩⟩
  · rw [eL]; exact l1.2.2
  · omega
  · rw [eH]; exact l3
end
end Go.Proofs.YtjgnafhbeekebaaGreat.L1

namespace Go.Proofs.YtjgnafhbeekebaaGreat.L1
open Go.RowKit
open Go.Proofs.YtjgnafhbeekebaaGreat

attribute [local go_sem] gw_cell gw_frozen gw_size

section
variable {t : Tab} {tlo thi x y lo hi V : Int}
/-- the amount that is measured -/
def amLo (V : Int) (v : Fr) : Int := V * v.flr / 1000000
def amHi (V : Int) (v : Fr) : Int := upI (V * v.cei) 1000000
theorem am_range {v : Fr} (h0 : 0 ≤ V) (h1 : V ≤ 999999) (f0 : 900000 ≤ v.flr) (fc : v.flr ≤ v.cei) (f1 : v.cei ≤ 1100000) :
    0 ≤ amLo V v ∧ amLo V v ≤ amHi V v ∧ amHi V v ≤ 1100000 ∧ amLo V v * 1000000 ≤ V * v.flr ∧ V * v.cei ≤ amHi V v * 1000000 := by
  have p0 := Int.mul_nonneg h0 (show 0 ≤ v.flr by omega)
  have p1 := Int.mul_le_mul_of_nonneg_left fc h0
  have p2 := Int.mul_le_mul h1 f1 (by omega) (by omega)
  unfold amLo amHi upI
  omega
theorem volLo_le {a : Int} {v : Fr} (hn : 1 ≤ v.n) (h : a * 1000000 * v.d ≤ V * v.n) : (volF a v).flr ≤ V := by
  unfold volF Fr.flr
  have := Int.ediv_le_ediv (show 0 < v.n by omega) h
  rwa [Int.mul_ediv_cancel _ (show v.n ≠ 0 by omega)] at this
theorem le_volHi {a : Int} {v : Fr} (hn : 1 ≤ v.n) (h : V * v.n ≤ a * 1000000 * v.d) : V ≤ (volF a v).cei := by
  have h2 : leF (ofI V) (volF a v) := by unfold leF ofI volF; simp only; rw [Int.mul_one]; exact h
  exact Int.le_trans ((ofI_le (by show 1 ≤ v.n; exact hn)).1 h2) (flr_le_cei (by show 1 ≤ v.n; exact hn))
theorem volHi_le {a c : Int} {v : Fr} (hn : 1 ≤ v.n) (h : a * 1000000 * v.d ≤ c * v.n) : (volF a v).cei ≤ c := by
  have h2 : leF (volF a v) (ofI c) := by unfold leF ofI volF; simp only; rw [Int.mul_one]; exact h
  exact (le_ofI (by show 1 ≤ v.n; exact hn)).1 h2
end
end Go.Proofs.YtjgnafhbeekebaaGreat.L1

namespace Go.Proofs.YtjgnafhbeekebaaGreat.L1
open Go.ChangeShapes Go.WideShapes Go.ChangeAt Go.RowKit Go.Deep
open Go.Proofs.YtjgnafhbeekebaaGreat

section
variable {H : Type} {enc : TypeId × Value → H} {P : Program} {w : World} {base : Nat} {spare : Nat → Bool} {held : Bool}

/-- rows of numbers -/
theorem rd_mat' {tI tL tR : TypeId} (hI : P.underlying tI = some (.int .i64)) (kI : P.cellsOf tI = 1) (hL : P.underlying tL = some (.slice tI)) (kL : P.cellsOf tL = 1) (hR : P.underlying tR = some (.slice tL)) {n : Nat} {v : Value} {x : DataW H × List MemPlace} (h : DataW.trod enc P w 0 spare held n tR [v] = some x) :
    ∃ r : Rows, v = .slice r.a r.n r.c ∧ r.n ≤ r.c ∧ r.c ≤ maxLen ∧ r.In w ∧ ∀ i, i < r.n → r.rN i ≤ maxLen ∧ ∀ k, k < r.rN i → In64 (r.M i k) := by
  rcases open_slice hR h with ⟨hcs, hx⟩ | ⟨a, len, cap, m, n', D, Pl, hcs, _, hl, hm, hmm, hx, hi⟩
  · simp at hcs
    exact ⟨⟨none, 0, 0, fun _ => none, fun _ => 0, fun _ => 0, fun _ _ => 0⟩, hcs, Nat.le_refl _, Nat.zero_le _, ⟨.inl rfl, fun i hi => by cases hi⟩, fun i hi => by cases hi⟩
  · simp at hcs
    have hlm : len ≤ m := by rw [hmm]; split <;> omega
    have each : ∀ i, ∃ q : (Option Addr × Nat × Nat) × (Nat → Int), i < m → w.cell? (a.add (i * 1)) = some (.slice q.1.1 q.1.2.1 q.1.2.2) ∧ NumsAt .i64 w q.1.1 q.1.2.1 q.2 ∧ q.1.2.1 ≤ maxLen ∧ ∀ k, k < q.1.2.1 → In64 (q.2 k) := fun i => by
      by_cases him : i < m
      · obtain ⟨cs, h1, h2⟩ := hi i him
        rw [kL] at h1
        have hlen : cs.length = 1 := (World.cells?_some h1).2.1
        have hc := (World.cells?_some h1).2.2
        match cs, hlen with
        | [c0], _ =>
          obtain ⟨a1, n1, c1, A, rfl, q1, q2, q3, q4⟩ := rd_nums' hL hI kI h2
          have := hc 0 (by omega)
          exact ⟨⟨⟨a1, n1, c1⟩, A⟩, fun _ => ⟨by simpa [Addr.add] using this, q3, Nat.le_trans q1 q2, fun k hk => in64_of (q4 k hk)⟩⟩
      · exact ⟨⟨⟨none, 0, 0⟩, fun _ => 0⟩, fun h => absurd h him⟩
    obtain ⟨Q, hQ⟩ := Classical.axiomOfChoice each
    clear each
    refine ⟨⟨some a, len, cap, fun i => (Q i).1.1, fun i => (Q i).1.2.1, fun i => (Q i).1.2.2, fun i => (Q i).2⟩, hcs, hl, hm, ⟨?_, fun i hi => (hQ i (Nat.lt_of_lt_of_le hi hlm)).2.1⟩, fun i hi => (hQ i (Nat.lt_of_lt_of_le hi hlm)).2.2⟩
    by_cases h0 : len = 0
    · exact .inl h0
    · have c0 := (hQ 0 (by omega)).1
      obtain ⟨b, off, spot⟩ := a
      have hs : spot = none := by simpa [Addr.add] using World.cell?_spot c0
      subst hs
      refine .inr ⟨b, off, rfl, by simpa [Addr.add] using World.block_lt_of_cell? w _ c0, fun i hi => ?_⟩
      have q0 := (hQ i (Nat.lt_of_lt_of_le hi hlm)).1
      rw [WideShapes.add_plain, Nat.mul_one] at q0
      exact q0
/-- lengths that slices have -/
structure Tab.Lens (t : Tab) : Prop where
  nT : t.nT ≤ 9223372036854775807
  nS : t.nS ≤ 9223372036854775807
  H : t.H.n ≤ 9223372036854775807
  HR : ∀ i, i < t.H.n → t.H.rN i ≤ 9223372036854775807
  R : t.R.n ≤ 9223372036854775807
  RR : ∀ i, i < t.R.n → t.R.rN i ≤ 9223372036854775807
/-- a table's numbers fit 64 bits -/
structure Tab.Num (t : Tab) : Prop where
  T : ∀ i, i < t.nT → In64 (t.T i)
  S : ∀ i, i < t.nS → In64 (t.S i)
  H : ∀ i, i < t.H.n → ∀ k, k < t.H.rN i → In64 (t.H.M i k)
  R : ∀ i, i < t.R.n → ∀ k, k < t.R.rN i → In64 (t.R.M i k)
theorem rd_table {tI tL tR tT : TypeId} {g0 g1 g2 g3 : Field} (hI : P.underlying tI = some (.int .i64)) (kI : P.cellsOf tI = 1) (hL : P.underlying tL = some (.slice tI)) (kL : P.cellsOf tL = 1) (hR : P.underlying tR = some (.slice tL)) (kR : P.cellsOf tR = 1)
    (hT : P.underlying tT = some (.struct #[g0, g1, g2, g3])) (kT : P.cellsOf tT = 4) (hg0 : g0.type = tL ∧ g0.offset = 0) (hg1 : g1.type = tL ∧ g1.offset = 1) (hg2 : g2.type = tR ∧ g2.offset = 2) (hg3 : g3.type = tR ∧ g3.offset = 3) {v : Value} {d : DataW H} {ps : List MemPlace}
    (hv : Value.okWide P w .any base tT v) (h : DataW.Trod enc P w 0 spare held tT v d ps) : ∃ t : Tab, v = t.val ∧ t.In w ∧ t.Lens ∧ t.Num := by
  obtain ⟨l, rfl, hl⟩ := agg_of hT hv
  obtain ⟨n, hn⟩ := h
  rw [hl] at hn
  obtain ⟨xs, n', _, _, hl, hxl, hf⟩ := DataW.trod_struct hT hn
  have hl2 : l.length = 4 := hl.trans kT
  match l, hl2, xs, hxl with
  | [c0, c1, c2, c3], _, [y0, y1, y2, y3], _ =>
    have h0 := hf 0 g0 rfl
    have h1 := hf 1 g1 rfl
    have h2 := hf 2 g2 rfl
    have h3 := hf 3 g3 rfl
    rw [hg0.1, hg0.2, kL] at h0
    rw [hg1.1, hg1.2, kL] at h1
    rw [hg2.1, hg2.2, kR] at h2
    rw [hg3.1, hg3.2, kR] at h3
    obtain ⟨aT, nT, cT, T, rfl, p1, p2, p3, p4⟩ := rd_nums' hL hI kI (h0 : DataW.trod _ _ _ _ _ _ _ _ [c0] = some y0)
    obtain ⟨aS, nS, cS, S, rfl, q1, q2, q3, q4⟩ := rd_nums' hL hI kI (h1 : DataW.trod _ _ _ _ _ _ _ _ [c1] = some y1)
    obtain ⟨rH, rfl, r1, r2, r3, r4⟩ := rd_mat' hI kI hL kL hR (h2 : DataW.trod _ _ _ _ _ _ _ _ [c2] = some y2)
    obtain ⟨rR, rfl, s1, s2, s3, s4⟩ := rd_mat' hI kI hL kL hR (h3 : DataW.trod _ _ _ _ _ _ _ _ [c3] = some y3)
    unfold maxLen at *
    exact ⟨⟨aT, nT, cT, T, aS, nS, cS, S, rH, rR⟩, rfl, ⟨p3, q3, r3, s3⟩, ⟨by show nT ≤ _; omega, by show nS ≤ _; omega, by show rH.n ≤ _; omega, fun i hi => by have := (r4 i hi).1; omega, by show rR.n ≤ _; omega, fun i hi => by have := (s4 i hi).1; omega⟩,
      ⟨fun i hi => in64_of (p4 i hi), fun i hi => in64_of (q4 i hi), fun i hi => (r4 i hi).2, fun i hi => (s4 i hi).2⟩⟩
end
end Go.Proofs.YtjgnafhbeekebaaGreat.L1

namespace Go.Proofs.YtjgnafhbeekebaaGreat.L1
open Go.RowKit
open Go.Proofs.YtjgnafhbeekebaaGreat

attribute [local go_sem] gw_cell gw_frozen gw_size
attribute [local go_sem ↓] run_minI

theorem run_maxI {Q : Program} (w : World) (ts : Array TypeId) (t : TypeId) (k k' : IntKind) (x y : Int) : (Builtin.max_ ts t #[.int k x, .int k' y]).run Q w = .ok (.int k (max x y)) w := by rw [run_maxZ, maxZ_eq]
attribute [local go_sem ↓] run_maxI
section
variable {t : Tab} {alo ahi lo hi tlo thi alo' ahi' lo' hi' tlo' thi' : Int}
theorem meE_ok (h : t.meE alo ahi lo hi tlo thi = 0) : t.okB = true ∧ t.strE lo hi tlo thi = 0 ∧ t.voE alo ahi (t.strL lo hi tlo thi) (t.strH lo hi tlo thi) tlo thi = 0 := by
  unfold Tab.meE at h
  by_cases hB : t.meB alo ahi = true
  · rw [if_pos hB] at h
    by_cases hs : t.strE lo hi tlo thi = 0
    · rw [if_pos hs] at h
      exact ⟨(Tab.strE_zero hs).1, hs, h⟩
    · rw [if_neg hs] at h; exact absurd h hs
  · rw [if_neg hB] at h; cases h
end

end Go.Proofs.YtjgnafhbeekebaaGreat.L1
namespace Go.Proofs.YtjgnafhbeekebaaGreat.L1
open Go.ChangeShapes Go.WideShapes Go.ChangeAt Go.RowKit Go.Deep
section
variable {H : Type} {enc : TypeId × Value → H} {P : Program} {w : World} {base : Nat} {spare : Nat → Bool} {held : Bool}
end
end Go.Proofs.YtjgnafhbeekebaaGreat.L1
