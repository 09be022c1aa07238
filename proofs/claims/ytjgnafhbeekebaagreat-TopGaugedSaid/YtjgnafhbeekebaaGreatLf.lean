/- Contract of Shown. Contracts of the closures of Strength. No conditions beyond each theorem's own. -/
import Derived.Test.YtjgnafhbeekebaaGreatSk
set_option linter.unusedVariables false
set_option linter.unusedSimpArgs false
set_option linter.unusedSectionVars false
set_option linter.constructorNameAsVariable false
namespace Go.Proofs.YtjgnafhbeekebaaGreat.L1
open Go.RowKit
open Go.Proofs.YtjgnafhbeekebaaGreat

attribute [local go_sem] gw_cell gw_frozen gw_size

section
variable {t : Tab} {slo shi tlo thi : Int}
end
theorem low_fit {t : Tab} {m : Rows} {w : World} (g : t.Good) (hM : t.Rowed m w) {slo shi tlo thi : Int} (ft : t.tb.FitT tlo thi) (fs : t.tb.FitS slo shi) : (t.low m slo shi tlo thi).Fit := by
  obtain ⟨x, y, hx, hy, e⟩ := (lowP_is (M := m.M) (tlo := tlo) (thi := thi) (slo := slo) (shi := shi) g.ok.rT g.ok.rS g.ok.t2 g.ok.s2).at_
  have hx' := mark_in ft.b hx
  have hy' := mark_in fs.b hy
  have a := ft.a
  have c := ft.c
  have p := fs.a
  have q := fs.c
  have : (t.valM m x y).Fit := g.fit hM (x := x) (y := y) ⟨by omega, Int.le_refl _, by omega⟩ ⟨by omega, Int.le_refl _, by omega⟩
  have e' : t.low m slo shi tlo thi = t.valM m x y := e
  rw [e']; exact this
theorem high_fit {t : Tab} {m : Rows} {w : World} (g : t.Good) (hM : t.Rowed m w) {slo shi tlo thi : Int} (ft : t.tb.FitT tlo thi) (fs : t.tb.FitS slo shi) : (t.high m slo shi tlo thi).Fit := by
  obtain ⟨x, y, hx, hy, e⟩ := (highP_is (M := m.M) (tlo := tlo) (thi := thi) (slo := slo) (shi := shi) g.ok.rT g.ok.rS g.ok.t2 g.ok.s2).at_
  have hx' := mark_in ft.b hx
  have hy' := mark_in fs.b hy
  have a := ft.a
  have c := ft.c
  have p := fs.a
  have q := fs.c
  have : (t.valM m x y).Fit := g.fit hM (x := x) (y := y) ⟨by omega, Int.le_refl _, by omega⟩ ⟨by omega, Int.le_refl _, by omega⟩
  have e' : t.high m slo shi tlo thi = t.valM m x y := e
  rw [e']; exact this
theorem Fr.Fit.floor {x : Fr} (h : x.Fit) (w : World) : Calls Tryz.prog 55 #[x.val] w fun e w' => e = .returned (.int .i64 x.flr) ∧ Below w.heap.size w w' := floor_any x.n x.d w h.n1 h.n2 h.d1
theorem Fr.Fit.ceil {x : Fr} (h : x.Fit) (w : World) : Calls Tryz.prog 57 #[x.val] w fun e w' => e = .returned (.int .i64 x.cei) ∧ Below w.heap.size w w' := ceil_any x.n x.d w h.n1 h.n2 h.d1

end Go.Proofs.YtjgnafhbeekebaaGreat.L1

namespace Go.Proofs.YtjgnafhbeekebaaGreat.L1
open Go.RowKit
open Go.Proofs.YtjgnafhbeekebaaGreat

attribute [local go_sem] gw_cell gw_frozen gw_size

theorem Tab.cnt_le {t : Tab} {i : Nat} (h : i < t.tb.cnt) : t.tb.first + i ≤ t.tb.last := Tb.cnt_lt.1 h
theorem fit_one {t : Tab} {s : Int} (h0 : t.tb.first ≤ s) (h1 : s ≤ t.tb.last) : t.tb.FitS s s := ⟨h0, Int.le_refl _, h1⟩
/-- what the closures read -/
structure SeesAt (t : Tab) (bt bm : Nat) (tlo thi : Int) (w : World) : Prop where
  i : t.In w
  z0 : w.cell? ⟨bt, 0, none⟩ = some (.slice t.aT t.nT t.cT)
  z1 : w.cell? ⟨bt, 1, none⟩ = some (.slice t.aS t.nS t.cS)
  z2 : w.cell? ⟨bt, 2, none⟩ = some (.slice t.H.a t.H.n t.H.c)
  m0 : w.cell? ⟨bm, 0, none⟩ = some (.int .i64 tlo)
  m1 : w.cell? ⟨bm, 1, none⟩ = some (.int .i64 thi)
theorem SeesAt.below {t : Tab} {bt bm : Nat} {tlo thi : Int} {w w' : World} (h : SeesAt t bt bm tlo thi w) (hb : Below w.heap.size w w') : SeesAt t bt bm tlo thi w' :=
  ⟨h.i.below hb, below_cell hb h.z0, below_cell hb h.z1, below_cell hb h.z2, below_cell hb h.m0, below_cell hb h.m1⟩

set_option maxRecDepth 100000 in
set_option maxHeartbeats 2000000 in
theorem sees_any (t : Tab) (g : t.Good) (bt bm : Nat) (tlo thi s : Int) (w : World) (h : SeesAt t bt bm tlo thi w) (ft : t.tb.FitT tlo thi) (h0 : t.tb.first ≤ s) (h1 : s ≤ t.tb.last) :
    Calls Tryz.prog 51 #[.int .i64 s, .pointer (some ⟨bt, 0, none⟩), .pointer (some ⟨bm, 0, none⟩)] w fun e w' =>
      e = .returned (.tuple #[(t.tb.seeL tlo thi s).val, (t.tb.seeH tlo thi s).val]) ∧ Below w.heap.size w w' := by
  obtain ⟨W1, hW1⟩ : ∃ W1, (w.alloc (.cells #[.int .i64 0, .int .i64 0] 95)).alloc (.cells #[.int .i64 0, .int .i64 0] 95) = W1 := ⟨_, rfl⟩
  have hBc : Below w.heap.size w W1 := by rw [← hW1]; exact (below_alloc _ _).alloc (by simp) _
  have zc0 : W1.heap[w.heap.size]? = some (.cells #[.int .i64 0, .int .i64 0] 95 (0, 0)) := by rw [← hW1]; exact alloc_keep (alloc_at rfl)
  have zc1 : W1.heap[w.heap.size + 1]? = some (.cells #[.int .i64 0, .int .i64 0] 95 (0, 0)) := by rw [← hW1]; exact alloc_at (by simp)
  have c00 : W1.cell? ⟨w.heap.size, 0, none⟩ = some (.int .i64 0) := cell_of_block zc0 0 (by simp)
  have c01 : W1.cell? ⟨w.heap.size, 1, none⟩ = some (.int .i64 0) := cell_of_block zc0 1 (by simp)
  have c10 : W1.cell? ⟨w.heap.size + 1, 0, none⟩ = some (.int .i64 0) := cell_of_block zc1 0 (by simp)
  have c11 : W1.cell? ⟨w.heap.size + 1, 1, none⟩ = some (.int .i64 0) := cell_of_block zc1 1 (by simp)
  have lc0 := (Array.getElem?_eq_some_iff.1 zc0).1
  have lc1 := (Array.getElem?_eq_some_iff.1 zc1).1
  have fc00 := frozen_of_block zc0 0
  have fc01 := frozen_of_block zc0 1
  have fc10 := frozen_of_block zc1 0
  have fc11 := frozen_of_block zc1 1
  clear zc0 zc1
  have HBc := Lib.hid hBc; clear hBc
  have HWc := Lib.hid hW1; clear hW1
  have h' := h.below HBc.out
  have EN := Lib.hid (ends_any t g t.H bt s s tlo thi W1 h'.i (g.rowsH h'.i) ft (fit_one h0 h1) h'.z0 h'.z1)
  have el : t.low t.H s s tlo thi = t.tb.seeL tlo thi s := rfl
  have eh : t.high t.H s s tlo thi = t.tb.seeH tlo thi s := rfl
  rw [el, eh] at EN
  obtain ⟨_, z0, z1, z2, m0, m1⟩ := h'
  clear el eh h g ft h0 h1
  generalize t.tb.seeL tlo thi s = lo at *
  generalize t.tb.seeH tlo thi s = hi at *
  unfold Fr.val Rows.val at EN
  unfold Fr.val
  have b2 := World.block_lt_of_cell? W1 _ z2
  have b3 := World.block_lt_of_cell? W1 _ m0
  dsimp only at b2 b3
  go_enter Tryz.func51, Tryz.ntmps51
  go_upto_region 1 with (fail)
  rw [HWc.out]
  go_wp2_with fail
  refine (Calls.grown EN.out).mono ?_
  rintro e w1 ⟨rfl, y1, rfl⟩
  go_wp2_with fail
  refine bodyPost_ret (v := .tuple #[.agg #[.int .i64 lo.n, .int .i64 lo.d], .agg #[.int .i64 hi.n, .int .i64 hi.d]]) (by simp [results, Tryz.results51, go_sem, *]) rfl ⟨rfl, ?_⟩
  exact ((((HBc.out.gw y1).setCell (by simp <;> omega) _).setCell (by simp <;> omega) _).setCell (by simp <;> omega) _).setCell (by simp <;> omega) _

set_option maxRecDepth 100000 in
set_option maxHeartbeats 2000000 in
theorem from1_any (t : Tab) (g : t.Good) (bt bm bs b9 b4 : Nat) (tlo thi x : Int) (i : Nat) (w : World) (h : SeesAt t bt bm tlo thi w) (ft : t.tb.FitT tlo thi) (hi : i < t.tb.cnt)
    (zs : w.cell? ⟨bs, 0, none⟩ = some (.func (.func 51) #[] #[.pointer (some ⟨bt, 0, none⟩), .pointer (some ⟨bm, 0, none⟩)])) (z9 : w.cell? ⟨b9, 0, none⟩ = some (.int .i64 t.tb.first)) (z4 : w.cell? ⟨b4, 0, none⟩ = some (.int .i64 x)) :
    Calls Tryz.prog 54 #[.int .i64 i, .pointer (some ⟨bs, 0, none⟩), .pointer (some ⟨b9, 0, none⟩), .pointer (some ⟨b4, 0, none⟩)] w fun e w' =>
      e = .returned (.bool (t.tb.frB x tlo thi i)) ∧ Below w.heap.size w w' := by
  have hl := Tab.cnt_le hi
  have b0 := g.ok.bS 0 (by have := g.ok.s2; omega)
  have bl := g.ok.bS (t.tb.nS - 1) (by have := g.ok.s2; omega)
  have d0 : t.tb.S 0 = t.tb.first := rfl
  have d1 : t.tb.S (t.tb.nS - 1) = t.tb.last := rfl
  rw [d0] at b0
  rw [d1] at bl
  have SE := Lib.hid (sees_any t g bt bm tlo thi (t.tb.first + i) w h ft (by omega) hl)
  have rH := g.rowsH h.i
  have FL : (t.tb.seeL tlo thi (t.tb.first + i)).Fit := low_fit g rH ft (fit_one (by omega) hl)
  have FH : (t.tb.seeH tlo thi (t.tb.first + i)).Fit := high_fit g rH ft (fit_one (by omega) hl)
  have FLO := Lib.hid (fun w => FL.ceil w)
  have FHI := Lib.hid (fun w => FH.floor w)
  have HB := Lib.hid (show t.tb.frB x tlo thi i = decide (x ≤ (t.tb.seeH tlo thi (t.tb.first + i)).flr) from rfl)
  rw [HB.out]
  have ei : i ≤ 10000 := by omega
  clear FL FH rH g hi h ft d0 d1 HB
  generalize t.tb.seeL tlo thi (t.tb.first + i) = lo at *
  generalize t.tb.seeH tlo thi (t.tb.first + i) = hi at *
  generalize t.tb.first = f at *
  obtain ⟨l, hl⟩ : ∃ l, lo.cei = l := ⟨_, rfl⟩
  obtain ⟨h, hh⟩ : ∃ h, hi.flr = h := ⟨_, rfl⟩
  rw [hh] at FHI ⊢
  clear hl hh
  unfold Fr.val at SE FLO FHI
  have k1 := World.block_lt_of_cell? w _ zs
  have k2 := World.block_lt_of_cell? w _ z9
  have k3 := World.block_lt_of_cell? w _ z4
  dsimp only at k1 k2 k3
  have eg : ∀ args w, (callFunc 51 args).run Tryz.prog w = .ok (.enter 51 args) w := enters_of Tryz.func51 (by kernel_rfl) rfl
  go_enter Tryz.func54, Tryz.ntmps54
  go_wp2_with fail
  refine (Calls.grown SE.out).mono ?_
  rintro e w1 ⟨rfl, y1, rfl⟩
  go_upto_region 2 with (fail)
  have HBw := Lib.hid (Below.refl w.heap.size w)
  obtain ⟨W2, hW2⟩ : ∃ W2, (((gw w y1)).alloc (.cells #[.int .i64 lo.n, .int .i64 lo.d] 95)).alloc (.cells #[.int .i64 hi.n, .int .i64 hi.d] 95) = W2 := ⟨_, rfl⟩
  have hbW2 : Below w.heap.size w W2 := by rw [← hW2]; exact ((below_gw w y1).alloc (by simp [gw_size]) _).alloc (by simp [gw_size] <;> omega) _
  have zloW2 : W2.heap[w.heap.size + y1.bs.size]? = some (.cells #[.int .i64 lo.n, .int .i64 lo.d] 95 (0, 0)) := by rw [← hW2]; exact alloc_keep (alloc_at (by simp [gw_size]))
  have ZloW2 := Lib.hid zloW2; clear zloW2
  have zhiW2 : W2.heap[w.heap.size + y1.bs.size + 1]? = some (.cells #[.int .i64 hi.n, .int .i64 hi.d] 95 (0, 0)) := by rw [← hW2]; exact alloc_at (by simp [gw_size] <;> omega)
  have ZhiW2 := Lib.hid zhiW2; clear zhiW2
  have HBW2 := Lib.hid (thru hbW2 HBw.out)
  have SBW2 := Lib.hid hbW2; clear hbW2
  have HWW2 := Lib.hid hW2; clear hW2
  rw [HWW2.out]
  have elo0W2 : W2.cell? ⟨w.heap.size + y1.bs.size, 0, none⟩ = some (.int .i64 lo.n) := cell_of_block ZloW2.out 0 (by simp)
  have elo1W2 : W2.cell? ⟨w.heap.size + y1.bs.size, 1, none⟩ = some (.int .i64 lo.d) := cell_of_block ZloW2.out 1 (by simp)
  have lloW2 := (Array.getElem?_eq_some_iff.1 ZloW2.out).1
  have ehi0W2 : W2.cell? ⟨w.heap.size + y1.bs.size + 1, 0, none⟩ = some (.int .i64 hi.n) := cell_of_block ZhiW2.out 0 (by simp)
  have ehi1W2 : W2.cell? ⟨w.heap.size + y1.bs.size + 1, 1, none⟩ = some (.int .i64 hi.d) := cell_of_block ZhiW2.out 1 (by simp)
  have lhiW2 := (Array.getElem?_eq_some_iff.1 ZhiW2.out).1
  replace z4 := below_cell SBW2.out z4
  replace k3 := Nat.lt_of_lt_of_le k3 SBW2.out.size
  refine wp_region_gw (by kernel_rfl) (by kernel_rfl) ?_
  repeat (go_big_quiet_step ((go_at_call 55; exact Calls.gw_of (FHI.out _))))
  refine wpQuiet_nil ?_
  rintro _ ⟨z5, rfl⟩
  go_wp2_with fail
  go_ret
  exact ⟨rfl, HBW2.out.gw z5⟩

set_option maxRecDepth 100000 in
set_option maxHeartbeats 2000000 in
theorem past1_any (t : Tab) (g : t.Good) (bt bm bs b9 b4 : Nat) (tlo thi x : Int) (i : Nat) (w : World) (h : SeesAt t bt bm tlo thi w) (ft : t.tb.FitT tlo thi) (hi : i < t.tb.cnt)
    (zs : w.cell? ⟨bs, 0, none⟩ = some (.func (.func 51) #[] #[.pointer (some ⟨bt, 0, none⟩), .pointer (some ⟨bm, 0, none⟩)])) (z9 : w.cell? ⟨b9, 0, none⟩ = some (.int .i64 t.tb.first)) (z4 : w.cell? ⟨b4, 1, none⟩ = some (.int .i64 x)) :
    Calls Tryz.prog 56 #[.int .i64 i, .pointer (some ⟨bs, 0, none⟩), .pointer (some ⟨b9, 0, none⟩), .pointer (some ⟨b4, 0, none⟩)] w fun e w' =>
      e = .returned (.bool (t.tb.paB x tlo thi i)) ∧ Below w.heap.size w w' := by
  have hl := Tab.cnt_le hi
  have b0 := g.ok.bS 0 (by have := g.ok.s2; omega)
  have bl := g.ok.bS (t.tb.nS - 1) (by have := g.ok.s2; omega)
  have d0 : t.tb.S 0 = t.tb.first := rfl
  have d1 : t.tb.S (t.tb.nS - 1) = t.tb.last := rfl
  rw [d0] at b0
  rw [d1] at bl
  have SE := Lib.hid (sees_any t g bt bm tlo thi (t.tb.first + i) w h ft (by omega) hl)
  have rH := g.rowsH h.i
  have FL : (t.tb.seeL tlo thi (t.tb.first + i)).Fit := low_fit g rH ft (fit_one (by omega) hl)
  have FH : (t.tb.seeH tlo thi (t.tb.first + i)).Fit := high_fit g rH ft (fit_one (by omega) hl)
  have FLO := Lib.hid (fun w => FL.ceil w)
  have FHI := Lib.hid (fun w => FH.floor w)
  have HB := Lib.hid (show t.tb.paB x tlo thi i = decide (x < (t.tb.seeL tlo thi (t.tb.first + i)).cei) from rfl)
  rw [HB.out]
  have ei : i ≤ 10000 := by omega
  clear FL FH rH g hi h ft d0 d1 HB
  generalize t.tb.seeL tlo thi (t.tb.first + i) = lo at *
  generalize t.tb.seeH tlo thi (t.tb.first + i) = hi at *
  generalize t.tb.first = f at *
  obtain ⟨l, hl⟩ : ∃ l, lo.cei = l := ⟨_, rfl⟩
  obtain ⟨h, hh⟩ : ∃ h, hi.flr = h := ⟨_, rfl⟩
  rw [hl] at FLO ⊢
  clear hl hh
  unfold Fr.val at SE FLO FHI
  have k1 := World.block_lt_of_cell? w _ zs
  have k2 := World.block_lt_of_cell? w _ z9
  have k3 := World.block_lt_of_cell? w _ z4
  dsimp only at k1 k2 k3
  have eg : ∀ args w, (callFunc 51 args).run Tryz.prog w = .ok (.enter 51 args) w := enters_of Tryz.func51 (by kernel_rfl) rfl
  go_enter Tryz.func56, Tryz.ntmps56
  go_wp2_with fail
  refine (Calls.grown SE.out).mono ?_
  rintro e w1 ⟨rfl, y1, rfl⟩
  go_upto_region 2 with (fail)
  have HBw := Lib.hid (Below.refl w.heap.size w)
  obtain ⟨W2, hW2⟩ : ∃ W2, (((gw w y1)).alloc (.cells #[.int .i64 lo.n, .int .i64 lo.d] 95)).alloc (.cells #[.int .i64 hi.n, .int .i64 hi.d] 95) = W2 := ⟨_, rfl⟩
  have hbW2 : Below w.heap.size w W2 := by rw [← hW2]; exact ((below_gw w y1).alloc (by simp [gw_size]) _).alloc (by simp [gw_size] <;> omega) _
  have zloW2 : W2.heap[w.heap.size + y1.bs.size]? = some (.cells #[.int .i64 lo.n, .int .i64 lo.d] 95 (0, 0)) := by rw [← hW2]; exact alloc_keep (alloc_at (by simp [gw_size]))
  have ZloW2 := Lib.hid zloW2; clear zloW2
  have zhiW2 : W2.heap[w.heap.size + y1.bs.size + 1]? = some (.cells #[.int .i64 hi.n, .int .i64 hi.d] 95 (0, 0)) := by rw [← hW2]; exact alloc_at (by simp [gw_size] <;> omega)
  have ZhiW2 := Lib.hid zhiW2; clear zhiW2
  have HBW2 := Lib.hid (thru hbW2 HBw.out)
  have SBW2 := Lib.hid hbW2; clear hbW2
  have HWW2 := Lib.hid hW2; clear hW2
  rw [HWW2.out]
  have elo0W2 : W2.cell? ⟨w.heap.size + y1.bs.size, 0, none⟩ = some (.int .i64 lo.n) := cell_of_block ZloW2.out 0 (by simp)
  have elo1W2 : W2.cell? ⟨w.heap.size + y1.bs.size, 1, none⟩ = some (.int .i64 lo.d) := cell_of_block ZloW2.out 1 (by simp)
  have lloW2 := (Array.getElem?_eq_some_iff.1 ZloW2.out).1
  have ehi0W2 : W2.cell? ⟨w.heap.size + y1.bs.size + 1, 0, none⟩ = some (.int .i64 hi.n) := cell_of_block ZhiW2.out 0 (by simp)
  have ehi1W2 : W2.cell? ⟨w.heap.size + y1.bs.size + 1, 1, none⟩ = some (.int .i64 hi.d) := cell_of_block ZhiW2.out 1 (by simp)
  have lhiW2 := (Array.getElem?_eq_some_iff.1 ZhiW2.out).1
  replace z4 := below_cell SBW2.out z4
  replace k3 := Nat.lt_of_lt_of_le k3 SBW2.out.size
  refine wp_region_gw (by kernel_rfl) (by kernel_rfl) ?_
  repeat (go_big_quiet_step ((go_at_call 57; exact Calls.gw_of (FLO.out _))))
  refine wpQuiet_nil ?_
  rintro _ ⟨z5, rfl⟩
  go_wp2_with fail
  go_ret
  exact ⟨rfl, HBW2.out.gw z5⟩

end Go.Proofs.YtjgnafhbeekebaaGreat.L1
