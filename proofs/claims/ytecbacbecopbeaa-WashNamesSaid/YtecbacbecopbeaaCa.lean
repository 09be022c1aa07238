/- Contract of hour (reference). No conditions beyond each theorem's own. -/
import Derived.Test.YtecbacbecopbeaaBx
import Derived.Test.YtecbacbecopbeaaBk
set_option linter.unusedVariables false
set_option linter.unusedSimpArgs false
set_option linter.unusedSectionVars false
set_option linter.constructorNameAsVariable false
namespace Go.Proofs.Ytecbacbecopbeaa
open Go.RowKit

attribute [local go_sem] gw_cell gw_frozen gw_size

theorem infoSP2 : (Try.prog.info? 23).map (fun i => (i.zero, i.size)) = some (some (.agg #[.int .i64 0, .int .i64 0]), 2) := by kernel_rfl

set_option maxRecDepth 100000 in
set_option maxHeartbeats 16000000 in
theorem rhour_any (y : Yst) (v : Vat) (cl ch : Int) (w : World) (hI : y.In w) (hf : y.Fits) (hB : ystB y = true) (hv : vatB v = true) (c0 : 0 ≤ cl) (c1 : cl ≤ ch) (c2 : ch ≤ 150000) :
    Calls Try.prog 69 #[y.val, v.val, .agg #[.int .i64 cl, .int .i64 ch]] w fun e w' => e = .returned (y.hour v cl ch).val ∧ Below w.heap.size w w' := by
  unfold Vat.val Yst.val
  obtain ⟨W1, hW1⟩ : ∃ W1, (((w.alloc (.cells #[.slice y.aT y.nT y.cT, .slice y.aR y.nR y.cR, .int .i64 y.sl, .int .i64 y.sh, .int .i64 y.gl, .int .i64 y.gh, .int .i64 y.hl, .int .i64 y.hh] 36)).alloc (.cells #[.int .i64 v.sl, .int .i64 v.sh, .int .i64 v.el, .int .i64 v.eh, .int .i64 v.pl, .int .i64 v.ph, .int .i64 v.gl, .int .i64 v.gh, .int .i64 v.ol, .int .i64 v.oh, .int .i64 v.tl, .int .i64 v.th, .int .i64 v.c] 38)).alloc (.cells #[.int .i64 cl, .int .i64 ch] 23)).alloc (.cells #[.int .i64 0, .int .i64 0, .int .i64 0, .int .i64 0, .int .i64 0, .int .i64 0, .int .i64 0, .int .i64 0, .int .i64 0, .int .i64 0, .int .i64 0, .int .i64 0, .int .i64 0] 38) = W1 := ⟨_, rfl⟩
  have hBc : Below w.heap.size w W1 := by rw [← hW1]; exact (((below_alloc _ _).alloc (by simp) _).alloc (by simp <;> omega) _).alloc (by simp <;> omega) _
  have zc0 : W1.heap[w.heap.size]? = some (.cells #[.slice y.aT y.nT y.cT, .slice y.aR y.nR y.cR, .int .i64 y.sl, .int .i64 y.sh, .int .i64 y.gl, .int .i64 y.gh, .int .i64 y.hl, .int .i64 y.hh] 36 (0, 0)) := by rw [← hW1]; exact alloc_keep (alloc_keep (alloc_keep (alloc_at rfl)))
  have zc1 : W1.heap[w.heap.size + 1]? = some (.cells #[.int .i64 v.sl, .int .i64 v.sh, .int .i64 v.el, .int .i64 v.eh, .int .i64 v.pl, .int .i64 v.ph, .int .i64 v.gl, .int .i64 v.gh, .int .i64 v.ol, .int .i64 v.oh, .int .i64 v.tl, .int .i64 v.th, .int .i64 v.c] 38 (0, 0)) := by rw [← hW1]; exact alloc_keep (alloc_keep (alloc_at (by simp)))
  have zc2 : W1.heap[w.heap.size + 1 + 1]? = some (.cells #[.int .i64 cl, .int .i64 ch] 23 (0, 0)) := by rw [← hW1]; exact alloc_keep (alloc_at (by simp <;> omega))
  have zc3 : W1.heap[w.heap.size + 1 + 1 + 1]? = some (.cells #[.int .i64 0, .int .i64 0, .int .i64 0, .int .i64 0, .int .i64 0, .int .i64 0, .int .i64 0, .int .i64 0, .int .i64 0, .int .i64 0, .int .i64 0, .int .i64 0, .int .i64 0] 38 (0, 0)) := by rw [← hW1]; exact alloc_at (by simp <;> omega)
  have c00 : W1.cell? ⟨w.heap.size, 0, none⟩ = some (.slice y.aT y.nT y.cT) := cell_of_block zc0 0 (by simp)
  have c01 : W1.cell? ⟨w.heap.size, 1, none⟩ = some (.slice y.aR y.nR y.cR) := cell_of_block zc0 1 (by simp)
  have c02 : W1.cell? ⟨w.heap.size, 2, none⟩ = some (.int .i64 y.sl) := cell_of_block zc0 2 (by simp)
  have c03 : W1.cell? ⟨w.heap.size, 3, none⟩ = some (.int .i64 y.sh) := cell_of_block zc0 3 (by simp)
  have c04 : W1.cell? ⟨w.heap.size, 4, none⟩ = some (.int .i64 y.gl) := cell_of_block zc0 4 (by simp)
  have c05 : W1.cell? ⟨w.heap.size, 5, none⟩ = some (.int .i64 y.gh) := cell_of_block zc0 5 (by simp)
  have c06 : W1.cell? ⟨w.heap.size, 6, none⟩ = some (.int .i64 y.hl) := cell_of_block zc0 6 (by simp)
  have c07 : W1.cell? ⟨w.heap.size, 7, none⟩ = some (.int .i64 y.hh) := cell_of_block zc0 7 (by simp)
  have c10 : W1.cell? ⟨w.heap.size + 1, 0, none⟩ = some (.int .i64 v.sl) := cell_of_block zc1 0 (by simp)
  have c11 : W1.cell? ⟨w.heap.size + 1, 1, none⟩ = some (.int .i64 v.sh) := cell_of_block zc1 1 (by simp)
  have c12 : W1.cell? ⟨w.heap.size + 1, 2, none⟩ = some (.int .i64 v.el) := cell_of_block zc1 2 (by simp)
  have c13 : W1.cell? ⟨w.heap.size + 1, 3, none⟩ = some (.int .i64 v.eh) := cell_of_block zc1 3 (by simp)
  have c14 : W1.cell? ⟨w.heap.size + 1, 4, none⟩ = some (.int .i64 v.pl) := cell_of_block zc1 4 (by simp)
  have c15 : W1.cell? ⟨w.heap.size + 1, 5, none⟩ = some (.int .i64 v.ph) := cell_of_block zc1 5 (by simp)
  have c16 : W1.cell? ⟨w.heap.size + 1, 6, none⟩ = some (.int .i64 v.gl) := cell_of_block zc1 6 (by simp)
  have c17 : W1.cell? ⟨w.heap.size + 1, 7, none⟩ = some (.int .i64 v.gh) := cell_of_block zc1 7 (by simp)
  have c18 : W1.cell? ⟨w.heap.size + 1, 8, none⟩ = some (.int .i64 v.ol) := cell_of_block zc1 8 (by simp)
  have c19 : W1.cell? ⟨w.heap.size + 1, 9, none⟩ = some (.int .i64 v.oh) := cell_of_block zc1 9 (by simp)
  have c110 : W1.cell? ⟨w.heap.size + 1, 10, none⟩ = some (.int .i64 v.tl) := cell_of_block zc1 10 (by simp)
  have c111 : W1.cell? ⟨w.heap.size + 1, 11, none⟩ = some (.int .i64 v.th) := cell_of_block zc1 11 (by simp)
  have c112 : W1.cell? ⟨w.heap.size + 1, 12, none⟩ = some (.int .i64 v.c) := cell_of_block zc1 12 (by simp)
  have c20 : W1.cell? ⟨w.heap.size + 1 + 1, 0, none⟩ = some (.int .i64 cl) := cell_of_block zc2 0 (by simp)
  have c21 : W1.cell? ⟨w.heap.size + 1 + 1, 1, none⟩ = some (.int .i64 ch) := cell_of_block zc2 1 (by simp)
  have c30 : W1.cell? ⟨w.heap.size + 1 + 1 + 1, 0, none⟩ = some (.int .i64 0) := cell_of_block zc3 0 (by simp)
  have c31 : W1.cell? ⟨w.heap.size + 1 + 1 + 1, 1, none⟩ = some (.int .i64 0) := cell_of_block zc3 1 (by simp)
  have c32 : W1.cell? ⟨w.heap.size + 1 + 1 + 1, 2, none⟩ = some (.int .i64 0) := cell_of_block zc3 2 (by simp)
  have c33 : W1.cell? ⟨w.heap.size + 1 + 1 + 1, 3, none⟩ = some (.int .i64 0) := cell_of_block zc3 3 (by simp)
  have c34 : W1.cell? ⟨w.heap.size + 1 + 1 + 1, 4, none⟩ = some (.int .i64 0) := cell_of_block zc3 4 (by simp)
  have c35 : W1.cell? ⟨w.heap.size + 1 + 1 + 1, 5, none⟩ = some (.int .i64 0) := cell_of_block zc3 5 (by simp)
  have c36 : W1.cell? ⟨w.heap.size + 1 + 1 + 1, 6, none⟩ = some (.int .i64 0) := cell_of_block zc3 6 (by simp)
  have c37 : W1.cell? ⟨w.heap.size + 1 + 1 + 1, 7, none⟩ = some (.int .i64 0) := cell_of_block zc3 7 (by simp)
  have c38 : W1.cell? ⟨w.heap.size + 1 + 1 + 1, 8, none⟩ = some (.int .i64 0) := cell_of_block zc3 8 (by simp)
  have c39 : W1.cell? ⟨w.heap.size + 1 + 1 + 1, 9, none⟩ = some (.int .i64 0) := cell_of_block zc3 9 (by simp)
  have c310 : W1.cell? ⟨w.heap.size + 1 + 1 + 1, 10, none⟩ = some (.int .i64 0) := cell_of_block zc3 10 (by simp)
  have c311 : W1.cell? ⟨w.heap.size + 1 + 1 + 1, 11, none⟩ = some (.int .i64 0) := cell_of_block zc3 11 (by simp)
  have c312 : W1.cell? ⟨w.heap.size + 1 + 1 + 1, 12, none⟩ = some (.int .i64 0) := cell_of_block zc3 12 (by simp)
  have lc0 := (Array.getElem?_eq_some_iff.1 zc0).1
  have lc1 := (Array.getElem?_eq_some_iff.1 zc1).1
  have lc2 := (Array.getElem?_eq_some_iff.1 zc2).1
  have lc3 := (Array.getElem?_eq_some_iff.1 zc3).1
  have Zc0 := Lib.hid zc0
  have Zc1 := Lib.hid zc1
  have Zc2 := Lib.hid zc2
  have Zc3 := Lib.hid zc3
  clear zc0 zc1 zc2 zc3
  have HBc := Lib.hid hBc; clear hBc
  have HWc := Lib.hid hW1; clear hW1
  obtain ⟨⟨v0, v1, v2⟩, ⟨e0, e1, e2⟩, ⟨p0, p1, p2⟩, ⟨g0, g1, g2⟩, -, ⟨t0, t1, t2⟩, k0, k1⟩ := vatB_t hv
  obtain ⟨-, -, -, -, ⟨s0, s1, s2⟩, ⟨q0, q1, q2⟩, h0, h1, h2⟩ := ystB_t hB
  obtain ⟨⟨a0, a1, a2⟩, ⟨a3, a4, a5⟩, ⟨a6, a7, a8⟩, ⟨a9, a10, a11⟩, ⟨a12, a13, a14⟩, ⟨a15, a16⟩, a17, a18⟩ := hour_range hB hv
  obtain ⟨r0, r1, r2⟩ := rate_range hB t1
  have EN := Lib.hid (show y.hour v cl ch = ⟨y.sa v, y.sb v, v.el + y.ea v, v.eh + y.eb v, v.pl + y.pa v, v.ph + y.pb v, v.gl + y.ga v, v.gh + y.gb v, y.ga v, y.gb v, v.tl + y.wa v - ch, v.th + y.wb v - cl, v.c⟩ from rfl)
  have C1 := fun W (hb : Below w.heap.size w W) => rRate_any y v.tl v.th W (hI.below hb) hf hB t1
  unfold Yst.val at C1
  have C2 := fun W => rpart_any v.sl v.sh (y.rl v.tl v.th) (y.rh v.tl v.th) W (part_range v0 r0 (by omega) (Int.le_trans v1 v2)).1.1 (by have := (part_range v0 r0 (show y.rl v.tl v.th ≤ 1000 by omega) (Int.le_trans v1 v2)).1.2; omega) (part_range (show 0 ≤ v.sh by omega) (show 0 ≤ y.rh v.tl v.th by omega) r2 v2).1.1 (by have := (part_range (show 0 ≤ v.sh by omega) (show 0 ≤ y.rh v.tl v.th by omega) r2 v2).1.2; omega)
  have C3 := fun W => rpart_any (y.ea v) (y.eb v) y.gl y.gh W (part_range a0 q0 (show y.gl ≤ 1000 by omega) (show y.ea v ≤ 1073741824 by omega)).1.1 (by have := (part_range a0 q0 (show y.gl ≤ 1000 by omega) (show y.ea v ≤ 1073741824 by omega)).1.2; omega) (part_range (show 0 ≤ y.eb v by omega) (show 0 ≤ y.gh by omega) q2 (show y.eb v ≤ 1073741824 by omega)).1.1 (by have := (part_range (show 0 ≤ y.eb v by omega) (show 0 ≤ y.gh by omega) q2 (show y.eb v ≤ 1073741824 by omega)).1.2; omega)
  have C4 := fun W => rpart_any (y.ea v) (y.eb v) y.sl y.sh W (part_range a0 s0 (show y.sl ≤ 1000 by omega) (show y.ea v ≤ 1073741824 by omega)).1.1 (by have := (part_range a0 s0 (show y.sl ≤ 1000 by omega) (show y.ea v ≤ 1073741824 by omega)).1.2; omega) (part_range (show 0 ≤ y.eb v by omega) (show 0 ≤ y.sh by omega) s2 (show y.eb v ≤ 1073741824 by omega)).1.1 (by have := (part_range (show 0 ≤ y.eb v by omega) (show 0 ≤ y.sh by omega) s2 (show y.eb v ≤ 1073741824 by omega)).1.2; omega)
  have C5 := fun W => rpart_any v.sl v.sh (1000 - y.rh v.tl v.th) (1000 - y.rl v.tl v.th) W (part_range v0 (show 0 ≤ 1000 - y.rh v.tl v.th by omega) (by omega) (Int.le_trans v1 v2)).1.1 (by have := (part_range v0 (show 0 ≤ 1000 - y.rh v.tl v.th by omega) (by omega) (Int.le_trans v1 v2)).1.2; omega) (part_range (show 0 ≤ v.sh by omega) (show 0 ≤ 1000 - y.rl v.tl v.th by omega) (by omega) v2).1.1 (by have := (part_range (show 0 ≤ v.sh by omega) (show 0 ≤ 1000 - y.rl v.tl v.th by omega) (by omega) v2).1.2; omega)
  have C6 := fun W => rfloor_any (y.ea v * y.hl * 1000) v.c W (by omega) (by omega) k0
  have C12 := fun W => rceil_any (y.eb v * y.hh * 1000) v.c W (by omega) (by omega) k0
  rw [show v.sl * y.rl v.tl v.th / 1000 = y.ea v from rfl, show upI (v.sh * y.rh v.tl v.th) 1000 = y.eb v from rfl] at C2
  rw [show y.ea v * y.gl / 1000 = y.ga v from rfl, show upI (y.eb v * y.gh) 1000 = y.gb v from rfl] at C3
  rw [show y.ea v * y.sl / 1000 = y.pa v from rfl, show upI (y.eb v * y.sh) 1000 = y.pb v from rfl] at C4
  rw [show v.sl * (1000 - y.rh v.tl v.th) / 1000 = y.sa v from rfl, show upI (v.sh * (1000 - y.rl v.tl v.th)) 1000 = y.sb v from rfl] at C5
  rw [show y.ea v * y.hl * 1000 / v.c = y.wa v from rfl] at C6
  rw [show upI (y.eb v * y.hh * 1000) v.c = y.wb v from rfl] at C12
  generalize y.ea v = ea at *
  generalize y.eb v = eb at *
  generalize y.pa v = pa at *
  generalize y.pb v = pb at *
  generalize y.ga v = ga at *
  generalize y.gb v = gb at *
  generalize y.wa v = wa at *
  generalize y.wb v = wb at *
  generalize y.sa v = sa at *
  generalize y.sb v = sb at *
  generalize y.rl v.tl v.th = rl at *
  generalize y.rh v.tl v.th = rh at *
  have C7 := Lib.hid (fun W => rplus_any v.el v.eh ea eb W (by omega) (by omega) (by omega) (by omega))
  have C8 := Lib.hid (fun W => rplus_any v.pl v.ph pa pb W (by omega) (by omega) (by omega) (by omega))
  have C9 := Lib.hid (fun W => rplus_any v.gl v.gh ga gb W (by omega) (by omega) (by omega) (by omega))
  have D1 := Lib.hid C1
  have D2 := Lib.hid C2
  have D3 := Lib.hid C3
  have D4 := Lib.hid C4
  have D5 := Lib.hid C5
  have D6 := Lib.hid C6
  have D12 := Lib.hid C12
  clear C1 C2 C3 C4 C5 C6 C12 hB hv hf hI
  have sz := HBc.out.size
  rw [EN.out]
  clear EN
  dsimp only
  go_enter Try.func69, Try.ntmps69
  go_upto_region 1 with (fail)
  rw [HWc.out]
  go_wp2_with fail
  refine (Calls.grown (D1.out _ HBc.out)).mono ?_
  rintro e w1 ⟨rfl, z1, rfl⟩
  go_upto_region 2 with (fail)
  obtain ⟨W2, hW2⟩ : ∃ W2, ((gw W1 z1)).alloc (.cells #[.int .i64 rl, .int .i64 rh] 23) = W2 := ⟨_, rfl⟩
  have hbW2 : Below W1.heap.size W1 W2 := by rw [← hW2]; exact (below_gw W1 z1).alloc (by simp [gw_size]) _
  have ZyW2 := Lib.hid ((hbW2.block _ (Array.getElem?_eq_some_iff.1 Zc0.out).1).trans Zc0.out)
  have ZvW2 := Lib.hid ((hbW2.block _ (Array.getElem?_eq_some_iff.1 Zc1.out).1).trans Zc1.out)
  have ZcW2 := Lib.hid ((hbW2.block _ (Array.getElem?_eq_some_iff.1 Zc2.out).1).trans Zc2.out)
  have ZoW2 := Lib.hid ((hbW2.block _ (Array.getElem?_eq_some_iff.1 Zc3.out).1).trans Zc3.out)
  have zrW2 : W2.heap[W1.heap.size + z1.bs.size]? = some (.cells #[.int .i64 rl, .int .i64 rh] 23 (0, 0)) := by rw [← hW2]; exact alloc_at (by simp [gw_size])
  have ZrW2 := Lib.hid zrW2; clear zrW2
  have HBW2 := Lib.hid (thru hbW2 HBc.out)
  have SBW2 := Lib.hid hbW2; clear hbW2
  have HWW2 := Lib.hid hW2; clear hW2
  rw [HWW2.out]
  clear c00 c01 c02 c03 c04 c05 c06 c07 c10 c11 c12 c13 c14 c15 c16 c17 c18 c19 c110 c111 c112 c20 c21 c30 c31 c32 c33 c34 c35 c36 c37 c38 c39 c310 c311 c312
  have zsW2 := SBW2.out.size
  have ev0W2 : W2.cell? ⟨w.heap.size + 1, 0, none⟩ = some (.int .i64 v.sl) := cell_of_block ZvW2.out 0 (by simp)
  have ev1W2 : W2.cell? ⟨w.heap.size + 1, 1, none⟩ = some (.int .i64 v.sh) := cell_of_block ZvW2.out 1 (by simp)
  have ev2W2 : W2.cell? ⟨w.heap.size + 1, 2, none⟩ = some (.int .i64 v.el) := cell_of_block ZvW2.out 2 (by simp)
  have ev3W2 : W2.cell? ⟨w.heap.size + 1, 3, none⟩ = some (.int .i64 v.eh) := cell_of_block ZvW2.out 3 (by simp)
  have ev4W2 : W2.cell? ⟨w.heap.size + 1, 4, none⟩ = some (.int .i64 v.pl) := cell_of_block ZvW2.out 4 (by simp)
  have ev5W2 : W2.cell? ⟨w.heap.size + 1, 5, none⟩ = some (.int .i64 v.ph) := cell_of_block ZvW2.out 5 (by simp)
  have ev6W2 : W2.cell? ⟨w.heap.size + 1, 6, none⟩ = some (.int .i64 v.gl) := cell_of_block ZvW2.out 6 (by simp)
  have ev7W2 : W2.cell? ⟨w.heap.size + 1, 7, none⟩ = some (.int .i64 v.gh) := cell_of_block ZvW2.out 7 (by simp)
  have ev8W2 : W2.cell? ⟨w.heap.size + 1, 8, none⟩ = some (.int .i64 v.ol) := cell_of_block ZvW2.out 8 (by simp)
  have ev9W2 : W2.cell? ⟨w.heap.size + 1, 9, none⟩ = some (.int .i64 v.oh) := cell_of_block ZvW2.out 9 (by simp)
  have ev10W2 : W2.cell? ⟨w.heap.size + 1, 10, none⟩ = some (.int .i64 v.tl) := cell_of_block ZvW2.out 10 (by simp)
  have ev11W2 : W2.cell? ⟨w.heap.size + 1, 11, none⟩ = some (.int .i64 v.th) := cell_of_block ZvW2.out 11 (by simp)
  have ev12W2 : W2.cell? ⟨w.heap.size + 1, 12, none⟩ = some (.int .i64 v.c) := cell_of_block ZvW2.out 12 (by simp)
  have lvW2 := (Array.getElem?_eq_some_iff.1 ZvW2.out).1
  have er0W2 : W2.cell? ⟨W1.heap.size + z1.bs.size, 0, none⟩ = some (.int .i64 rl) := cell_of_block ZrW2.out 0 (by simp)
  have er1W2 : W2.cell? ⟨W1.heap.size + z1.bs.size, 1, none⟩ = some (.int .i64 rh) := cell_of_block ZrW2.out 1 (by simp)
  have lrW2 := (Array.getElem?_eq_some_iff.1 ZrW2.out).1
  go_wp2_with fail
  refine (Calls.grown (D2.out _)).mono ?_
  rintro e w1 ⟨rfl, z2, rfl⟩
  go_upto_region 3 with (fail)
  obtain ⟨W3, hW3⟩ : ∃ W3, ((gw W2 z2)).alloc (.cells #[.int .i64 ea, .int .i64 eb] 23) = W3 := ⟨_, rfl⟩
  have hbW3 : Below W2.heap.size W2 W3 := by rw [← hW3]; exact (below_gw W2 z2).alloc (by simp [gw_size]) _
  have ZyW3 := Lib.hid ((hbW3.block _ (Array.getElem?_eq_some_iff.1 ZyW2.out).1).trans ZyW2.out)
  have ZvW3 := Lib.hid ((hbW3.block _ (Array.getElem?_eq_some_iff.1 ZvW2.out).1).trans ZvW2.out)
  have ZcW3 := Lib.hid ((hbW3.block _ (Array.getElem?_eq_some_iff.1 ZcW2.out).1).trans ZcW2.out)
  have ZoW3 := Lib.hid ((hbW3.block _ (Array.getElem?_eq_some_iff.1 ZoW2.out).1).trans ZoW2.out)
  have ZrW3 := Lib.hid ((hbW3.block _ (Array.getElem?_eq_some_iff.1 ZrW2.out).1).trans ZrW2.out)
  have zeW3 : W3.heap[W2.heap.size + z2.bs.size]? = some (.cells #[.int .i64 ea, .int .i64 eb] 23 (0, 0)) := by rw [← hW3]; exact alloc_at (by simp [gw_size])
  have ZeW3 := Lib.hid zeW3; clear zeW3
  have HBW3 := Lib.hid (thru hbW3 HBW2.out)
  have SBW3 := Lib.hid hbW3; clear hbW3
  have HWW3 := Lib.hid hW3; clear hW3
  rw [HWW3.out]
  clear ev0W2 ev1W2 ev2W2 ev3W2 ev4W2 ev5W2 ev6W2 ev7W2 ev8W2 ev9W2 ev10W2 ev11W2 ev12W2 er0W2 er1W2
  have zsW3 := SBW3.out.size
  have ee0W3 : W3.cell? ⟨W2.heap.size + z2.bs.size, 0, none⟩ = some (.int .i64 ea) := cell_of_block ZeW3.out 0 (by simp)
  have ee1W3 : W3.cell? ⟨W2.heap.size + z2.bs.size, 1, none⟩ = some (.int .i64 eb) := cell_of_block ZeW3.out 1 (by simp)
  have leW3 := (Array.getElem?_eq_some_iff.1 ZeW3.out).1
  have ey0W3 : W3.cell? ⟨w.heap.size, 0, none⟩ = some (.slice y.aT y.nT y.cT) := cell_of_block ZyW3.out 0 (by simp)
  have ey1W3 : W3.cell? ⟨w.heap.size, 1, none⟩ = some (.slice y.aR y.nR y.cR) := cell_of_block ZyW3.out 1 (by simp)
  have ey2W3 : W3.cell? ⟨w.heap.size, 2, none⟩ = some (.int .i64 y.sl) := cell_of_block ZyW3.out 2 (by simp)
  have ey3W3 : W3.cell? ⟨w.heap.size, 3, none⟩ = some (.int .i64 y.sh) := cell_of_block ZyW3.out 3 (by simp)
  have ey4W3 : W3.cell? ⟨w.heap.size, 4, none⟩ = some (.int .i64 y.gl) := cell_of_block ZyW3.out 4 (by simp)
  have ey5W3 : W3.cell? ⟨w.heap.size, 5, none⟩ = some (.int .i64 y.gh) := cell_of_block ZyW3.out 5 (by simp)
  have ey6W3 : W3.cell? ⟨w.heap.size, 6, none⟩ = some (.int .i64 y.hl) := cell_of_block ZyW3.out 6 (by simp)
  have ey7W3 : W3.cell? ⟨w.heap.size, 7, none⟩ = some (.int .i64 y.hh) := cell_of_block ZyW3.out 7 (by simp)
  have lyW3 := (Array.getElem?_eq_some_iff.1 ZyW3.out).1
  have ev0W3 : W3.cell? ⟨w.heap.size + 1, 0, none⟩ = some (.int .i64 v.sl) := cell_of_block ZvW3.out 0 (by simp)
  have ev1W3 : W3.cell? ⟨w.heap.size + 1, 1, none⟩ = some (.int .i64 v.sh) := cell_of_block ZvW3.out 1 (by simp)
  have ev2W3 : W3.cell? ⟨w.heap.size + 1, 2, none⟩ = some (.int .i64 v.el) := cell_of_block ZvW3.out 2 (by simp)
  have ev3W3 : W3.cell? ⟨w.heap.size + 1, 3, none⟩ = some (.int .i64 v.eh) := cell_of_block ZvW3.out 3 (by simp)
  have ev4W3 : W3.cell? ⟨w.heap.size + 1, 4, none⟩ = some (.int .i64 v.pl) := cell_of_block ZvW3.out 4 (by simp)
  have ev5W3 : W3.cell? ⟨w.heap.size + 1, 5, none⟩ = some (.int .i64 v.ph) := cell_of_block ZvW3.out 5 (by simp)
  have ev6W3 : W3.cell? ⟨w.heap.size + 1, 6, none⟩ = some (.int .i64 v.gl) := cell_of_block ZvW3.out 6 (by simp)
  have ev7W3 : W3.cell? ⟨w.heap.size + 1, 7, none⟩ = some (.int .i64 v.gh) := cell_of_block ZvW3.out 7 (by simp)
  have ev8W3 : W3.cell? ⟨w.heap.size + 1, 8, none⟩ = some (.int .i64 v.ol) := cell_of_block ZvW3.out 8 (by simp)
  have ev9W3 : W3.cell? ⟨w.heap.size + 1, 9, none⟩ = some (.int .i64 v.oh) := cell_of_block ZvW3.out 9 (by simp)
  have ev10W3 : W3.cell? ⟨w.heap.size + 1, 10, none⟩ = some (.int .i64 v.tl) := cell_of_block ZvW3.out 10 (by simp)
  have ev11W3 : W3.cell? ⟨w.heap.size + 1, 11, none⟩ = some (.int .i64 v.th) := cell_of_block ZvW3.out 11 (by simp)
  have ev12W3 : W3.cell? ⟨w.heap.size + 1, 12, none⟩ = some (.int .i64 v.c) := cell_of_block ZvW3.out 12 (by simp)
  have lvW3 := (Array.getElem?_eq_some_iff.1 ZvW3.out).1
  refine wp_region_box1 [true, true, true, true, true, true, true, true, true, true, true, true, true, true, true, true, true, true, true, true, true, false, false] 21 22 #[.int .i64 0, .int .i64 0] #[.int .i64 wa, .int .i64 wb] (by kernel_rfl) rfl rfl rfl (by kernel_rfl) rfl (by kernel_rfl) infoSP2 rfl rfl (by simp [Value.oneCell']) ?_
  apply Exists.intro
  refine ⟨fun S hS hx => ?_, ?_, ?_⟩
  · obtain ⟨x0, hx0⟩ := hx
    haveI : Nonempty (GrewS W3 S) := ⟨⟨x0, hx0⟩⟩
    simp only [pickM]
    repeat (go_big_quiet_step (first | (go_at_call 56; with_reducible exact Calls.gwS_same (D6.out _)) | (go_at_call 55; with_reducible exact Calls.gwS_same (D12.out _))))
    exact wpQuiet_nil rfl
  · rfl
  · intro B10 w10 hBw hblk hb10
    have HK := Lib.hid hblk; clear hblk
    have SBw10 := Lib.hid (hb10)
    have Zyw10 := Lib.hid ((SBw10.out.block _ (Array.getElem?_eq_some_iff.1 ZyW3.out).1).trans ZyW3.out)
    have Zvw10 := Lib.hid ((SBw10.out.block _ (Array.getElem?_eq_some_iff.1 ZvW3.out).1).trans ZvW3.out)
    have Zcw10 := Lib.hid ((SBw10.out.block _ (Array.getElem?_eq_some_iff.1 ZcW3.out).1).trans ZcW3.out)
    have Zow10 := Lib.hid ((SBw10.out.block _ (Array.getElem?_eq_some_iff.1 ZoW3.out).1).trans ZoW3.out)
    have Zrw10 := Lib.hid ((SBw10.out.block _ (Array.getElem?_eq_some_iff.1 ZrW3.out).1).trans ZrW3.out)
    have Zew10 := Lib.hid ((SBw10.out.block _ (Array.getElem?_eq_some_iff.1 ZeW3.out).1).trans ZeW3.out)
    have HBw10 := Lib.hid (thru SBw10.out HBW3.out)
    have zsw10 := SBw10.out.size
    clear hb10 ee0W3 ee1W3 ey0W3 ey1W3 ey2W3 ey3W3 ey4W3 ey5W3 ey6W3 ey7W3 ev0W3 ev1W3 ev2W3 ev3W3 ev4W3 ev5W3 ev6W3 ev7W3 ev8W3 ev9W3 ev10W3 ev11W3 ev12W3
    go_upto_region 4 with (fail)
    simp only [Act.put, List.setIfInBounds_toArray, List.set_cons_succ, List.set_cons_zero]
    have ey0w10 : w10.cell? ⟨w.heap.size, 0, none⟩ = some (.slice y.aT y.nT y.cT) := cell_of_block Zyw10.out 0 (by simp)
    have ey1w10 : w10.cell? ⟨w.heap.size, 1, none⟩ = some (.slice y.aR y.nR y.cR) := cell_of_block Zyw10.out 1 (by simp)
    have ey2w10 : w10.cell? ⟨w.heap.size, 2, none⟩ = some (.int .i64 y.sl) := cell_of_block Zyw10.out 2 (by simp)
    have ey3w10 : w10.cell? ⟨w.heap.size, 3, none⟩ = some (.int .i64 y.sh) := cell_of_block Zyw10.out 3 (by simp)
    have ey4w10 : w10.cell? ⟨w.heap.size, 4, none⟩ = some (.int .i64 y.gl) := cell_of_block Zyw10.out 4 (by simp)
    have ey5w10 : w10.cell? ⟨w.heap.size, 5, none⟩ = some (.int .i64 y.gh) := cell_of_block Zyw10.out 5 (by simp)
    have ey6w10 : w10.cell? ⟨w.heap.size, 6, none⟩ = some (.int .i64 y.hl) := cell_of_block Zyw10.out 6 (by simp)
    have ey7w10 : w10.cell? ⟨w.heap.size, 7, none⟩ = some (.int .i64 y.hh) := cell_of_block Zyw10.out 7 (by simp)
    have lyw10 := (Array.getElem?_eq_some_iff.1 Zyw10.out).1
    have ee0w10 : w10.cell? ⟨W2.heap.size + z2.bs.size, 0, none⟩ = some (.int .i64 ea) := cell_of_block Zew10.out 0 (by simp)
    have ee1w10 : w10.cell? ⟨W2.heap.size + z2.bs.size, 1, none⟩ = some (.int .i64 eb) := cell_of_block Zew10.out 1 (by simp)
    have lew10 := (Array.getElem?_eq_some_iff.1 Zew10.out).1
    go_wp2_with fail
    refine (Calls.grown (D3.out _)).mono ?_
    rintro e w1 ⟨rfl, z3, rfl⟩
    go_upto_region 5 with (fail)
    obtain ⟨W11, hW11⟩ : ∃ W11, ((gw w10 z3)).alloc (.cells #[.int .i64 ga, .int .i64 gb] 23) = W11 := ⟨_, rfl⟩
    have hbW11 : Below w10.heap.size w10 W11 := by rw [← hW11]; exact (below_gw w10 z3).alloc (by simp [gw_size]) _
    have ZyW11 := Lib.hid ((hbW11.block _ (Array.getElem?_eq_some_iff.1 Zyw10.out).1).trans Zyw10.out)
    have ZvW11 := Lib.hid ((hbW11.block _ (Array.getElem?_eq_some_iff.1 Zvw10.out).1).trans Zvw10.out)
    have ZcW11 := Lib.hid ((hbW11.block _ (Array.getElem?_eq_some_iff.1 Zcw10.out).1).trans Zcw10.out)
    have ZoW11 := Lib.hid ((hbW11.block _ (Array.getElem?_eq_some_iff.1 Zow10.out).1).trans Zow10.out)
    have ZrW11 := Lib.hid ((hbW11.block _ (Array.getElem?_eq_some_iff.1 Zrw10.out).1).trans Zrw10.out)
    have ZeW11 := Lib.hid ((hbW11.block _ (Array.getElem?_eq_some_iff.1 Zew10.out).1).trans Zew10.out)
    have ZmW11 := Lib.hid ((hbW11.block _ (Array.getElem?_eq_some_iff.1 HK.out).1).trans HK.out)
    have zgW11 : W11.heap[w10.heap.size + z3.bs.size]? = some (.cells #[.int .i64 ga, .int .i64 gb] 23 (0, 0)) := by rw [← hW11]; exact alloc_at (by simp [gw_size])
    have ZgW11 := Lib.hid zgW11; clear zgW11
    have HBW11 := Lib.hid (thru hbW11 HBw10.out)
    have SBW11 := Lib.hid hbW11; clear hbW11
    have HWW11 := Lib.hid hW11; clear hW11
    rw [HWW11.out]
    clear ey0w10 ey1w10 ey2w10 ey3w10 ey4w10 ey5w10 ey6w10 ey7w10 ee0w10 ee1w10
    have zsW11 := SBW11.out.size
    have ey0W11 : W11.cell? ⟨w.heap.size, 0, none⟩ = some (.slice y.aT y.nT y.cT) := cell_of_block ZyW11.out 0 (by simp)
    have ey1W11 : W11.cell? ⟨w.heap.size, 1, none⟩ = some (.slice y.aR y.nR y.cR) := cell_of_block ZyW11.out 1 (by simp)
    have ey2W11 : W11.cell? ⟨w.heap.size, 2, none⟩ = some (.int .i64 y.sl) := cell_of_block ZyW11.out 2 (by simp)
    have ey3W11 : W11.cell? ⟨w.heap.size, 3, none⟩ = some (.int .i64 y.sh) := cell_of_block ZyW11.out 3 (by simp)
    have ey4W11 : W11.cell? ⟨w.heap.size, 4, none⟩ = some (.int .i64 y.gl) := cell_of_block ZyW11.out 4 (by simp)
    have ey5W11 : W11.cell? ⟨w.heap.size, 5, none⟩ = some (.int .i64 y.gh) := cell_of_block ZyW11.out 5 (by simp)
    have ey6W11 : W11.cell? ⟨w.heap.size, 6, none⟩ = some (.int .i64 y.hl) := cell_of_block ZyW11.out 6 (by simp)
    have ey7W11 : W11.cell? ⟨w.heap.size, 7, none⟩ = some (.int .i64 y.hh) := cell_of_block ZyW11.out 7 (by simp)
    have lyW11 := (Array.getElem?_eq_some_iff.1 ZyW11.out).1
    have ev0W11 : W11.cell? ⟨w.heap.size + 1, 0, none⟩ = some (.int .i64 v.sl) := cell_of_block ZvW11.out 0 (by simp)
    have ev1W11 : W11.cell? ⟨w.heap.size + 1, 1, none⟩ = some (.int .i64 v.sh) := cell_of_block ZvW11.out 1 (by simp)
    have ev2W11 : W11.cell? ⟨w.heap.size + 1, 2, none⟩ = some (.int .i64 v.el) := cell_of_block ZvW11.out 2 (by simp)
    have ev3W11 : W11.cell? ⟨w.heap.size + 1, 3, none⟩ = some (.int .i64 v.eh) := cell_of_block ZvW11.out 3 (by simp)
    have ev4W11 : W11.cell? ⟨w.heap.size + 1, 4, none⟩ = some (.int .i64 v.pl) := cell_of_block ZvW11.out 4 (by simp)
    have ev5W11 : W11.cell? ⟨w.heap.size + 1, 5, none⟩ = some (.int .i64 v.ph) := cell_of_block ZvW11.out 5 (by simp)
    have ev6W11 : W11.cell? ⟨w.heap.size + 1, 6, none⟩ = some (.int .i64 v.gl) := cell_of_block ZvW11.out 6 (by simp)
    have ev7W11 : W11.cell? ⟨w.heap.size + 1, 7, none⟩ = some (.int .i64 v.gh) := cell_of_block ZvW11.out 7 (by simp)
    have ev8W11 : W11.cell? ⟨w.heap.size + 1, 8, none⟩ = some (.int .i64 v.ol) := cell_of_block ZvW11.out 8 (by simp)
    have ev9W11 : W11.cell? ⟨w.heap.size + 1, 9, none⟩ = some (.int .i64 v.oh) := cell_of_block ZvW11.out 9 (by simp)
    have ev10W11 : W11.cell? ⟨w.heap.size + 1, 10, none⟩ = some (.int .i64 v.tl) := cell_of_block ZvW11.out 10 (by simp)
    have ev11W11 : W11.cell? ⟨w.heap.size + 1, 11, none⟩ = some (.int .i64 v.th) := cell_of_block ZvW11.out 11 (by simp)
    have ev12W11 : W11.cell? ⟨w.heap.size + 1, 12, none⟩ = some (.int .i64 v.c) := cell_of_block ZvW11.out 12 (by simp)
    have lvW11 := (Array.getElem?_eq_some_iff.1 ZvW11.out).1
    have ec0W11 : W11.cell? ⟨w.heap.size + 1 + 1, 0, none⟩ = some (.int .i64 cl) := cell_of_block ZcW11.out 0 (by simp)
    have ec1W11 : W11.cell? ⟨w.heap.size + 1 + 1, 1, none⟩ = some (.int .i64 ch) := cell_of_block ZcW11.out 1 (by simp)
    have lcW11 := (Array.getElem?_eq_some_iff.1 ZcW11.out).1
    have er0W11 : W11.cell? ⟨W1.heap.size + z1.bs.size, 0, none⟩ = some (.int .i64 rl) := cell_of_block ZrW11.out 0 (by simp)
    have er1W11 : W11.cell? ⟨W1.heap.size + z1.bs.size, 1, none⟩ = some (.int .i64 rh) := cell_of_block ZrW11.out 1 (by simp)
    have lrW11 := (Array.getElem?_eq_some_iff.1 ZrW11.out).1
    have ee0W11 : W11.cell? ⟨W2.heap.size + z2.bs.size, 0, none⟩ = some (.int .i64 ea) := cell_of_block ZeW11.out 0 (by simp)
    have ee1W11 : W11.cell? ⟨W2.heap.size + z2.bs.size, 1, none⟩ = some (.int .i64 eb) := cell_of_block ZeW11.out 1 (by simp)
    have leW11 := (Array.getElem?_eq_some_iff.1 ZeW11.out).1
    have em0W11 : W11.cell? ⟨B10, 0, none⟩ = some (.int .i64 wa) := cell_of_block ZmW11.out 0 (by simp)
    have em1W11 : W11.cell? ⟨B10, 1, none⟩ = some (.int .i64 wb) := cell_of_block ZmW11.out 1 (by simp)
    have lmW11 := (Array.getElem?_eq_some_iff.1 ZmW11.out).1
    have eg0W11 : W11.cell? ⟨w10.heap.size + z3.bs.size, 0, none⟩ = some (.int .i64 ga) := cell_of_block ZgW11.out 0 (by simp)
    have eg1W11 : W11.cell? ⟨w10.heap.size + z3.bs.size, 1, none⟩ = some (.int .i64 gb) := cell_of_block ZgW11.out 1 (by simp)
    have lgW11 := (Array.getElem?_eq_some_iff.1 ZgW11.out).1
    refine wp_region_gw_tail 48 (by kernel_rfl) (by kernel_rfl) ?_
    simp only [List.take_succ_cons, List.take_zero]
    repeat (go_big_quiet_step (first | (go_at_call 77; with_reducible exact Calls.gw_of (D5.out _)) | (go_at_call 78; with_reducible exact Calls.gw_of (C7.out _)) | (go_at_call 77; with_reducible exact Calls.gw_of (D4.out _)) | (go_at_call 78; with_reducible exact Calls.gw_of (C8.out _)) | (go_at_call 78; with_reducible exact Calls.gw_of (C9.out _))))
    refine wpQuiet_nil ?_
    rintro _ ⟨z20, rfl⟩
    simp only [List.drop_succ_cons, List.drop_zero]
    obtain ⟨W12, hW12⟩ : ∃ W12, gw W11 z20 = W12 := ⟨_, rfl⟩
    have hbW12 : Below W11.heap.size W11 W12 := by rw [← hW12]; exact below_gw W11 z20
    have ZyW12 := Lib.hid ((hbW12.block _ (Array.getElem?_eq_some_iff.1 ZyW11.out).1).trans ZyW11.out)
    have ZvW12 := Lib.hid ((hbW12.block _ (Array.getElem?_eq_some_iff.1 ZvW11.out).1).trans ZvW11.out)
    have ZcW12 := Lib.hid ((hbW12.block _ (Array.getElem?_eq_some_iff.1 ZcW11.out).1).trans ZcW11.out)
    have ZoW12 := Lib.hid ((hbW12.block _ (Array.getElem?_eq_some_iff.1 ZoW11.out).1).trans ZoW11.out)
    have ZrW12 := Lib.hid ((hbW12.block _ (Array.getElem?_eq_some_iff.1 ZrW11.out).1).trans ZrW11.out)
    have ZeW12 := Lib.hid ((hbW12.block _ (Array.getElem?_eq_some_iff.1 ZeW11.out).1).trans ZeW11.out)
    have ZmW12 := Lib.hid ((hbW12.block _ (Array.getElem?_eq_some_iff.1 ZmW11.out).1).trans ZmW11.out)
    have ZgW12 := Lib.hid ((hbW12.block _ (Array.getElem?_eq_some_iff.1 ZgW11.out).1).trans ZgW11.out)
    have HBW12 := Lib.hid (thru hbW12 HBW11.out)
    have SBW12 := Lib.hid hbW12; clear hbW12
    have HWW12 := Lib.hid hW12; clear hW12
    rw [HWW12.out]
    clear ey0W11 ey1W11 ey2W11 ey3W11 ey4W11 ey5W11 ey6W11 ey7W11 ev0W11 ev1W11 ev2W11 ev3W11 ev4W11 ev5W11 ev6W11 ev7W11 ev8W11 ev9W11 ev10W11 ev11W11 ev12W11 ec0W11 ec1W11 er0W11 er1W11 ee0W11 ee1W11 em0W11 em1W11 eg0W11 eg1W11
    have zsW12 := SBW12.out.size
    have eo0W12 : W12.cell? ⟨w.heap.size + 1 + 1 + 1, 0, none⟩ = some (.int .i64 0) := cell_of_block ZoW12.out 0 (by simp)
    have fo0W12 := frozen_of_block ZoW12.out 0
    have eo1W12 : W12.cell? ⟨w.heap.size + 1 + 1 + 1, 1, none⟩ = some (.int .i64 0) := cell_of_block ZoW12.out 1 (by simp)
    have fo1W12 := frozen_of_block ZoW12.out 1
    have eo2W12 : W12.cell? ⟨w.heap.size + 1 + 1 + 1, 2, none⟩ = some (.int .i64 0) := cell_of_block ZoW12.out 2 (by simp)
    have fo2W12 := frozen_of_block ZoW12.out 2
    have eo3W12 : W12.cell? ⟨w.heap.size + 1 + 1 + 1, 3, none⟩ = some (.int .i64 0) := cell_of_block ZoW12.out 3 (by simp)
    have fo3W12 := frozen_of_block ZoW12.out 3
    have eo4W12 : W12.cell? ⟨w.heap.size + 1 + 1 + 1, 4, none⟩ = some (.int .i64 0) := cell_of_block ZoW12.out 4 (by simp)
    have fo4W12 := frozen_of_block ZoW12.out 4
    have eo5W12 : W12.cell? ⟨w.heap.size + 1 + 1 + 1, 5, none⟩ = some (.int .i64 0) := cell_of_block ZoW12.out 5 (by simp)
    have fo5W12 := frozen_of_block ZoW12.out 5
    have eo6W12 : W12.cell? ⟨w.heap.size + 1 + 1 + 1, 6, none⟩ = some (.int .i64 0) := cell_of_block ZoW12.out 6 (by simp)
    have fo6W12 := frozen_of_block ZoW12.out 6
    have eo7W12 : W12.cell? ⟨w.heap.size + 1 + 1 + 1, 7, none⟩ = some (.int .i64 0) := cell_of_block ZoW12.out 7 (by simp)
    have fo7W12 := frozen_of_block ZoW12.out 7
    have eo8W12 : W12.cell? ⟨w.heap.size + 1 + 1 + 1, 8, none⟩ = some (.int .i64 0) := cell_of_block ZoW12.out 8 (by simp)
    have fo8W12 := frozen_of_block ZoW12.out 8
    have eo9W12 : W12.cell? ⟨w.heap.size + 1 + 1 + 1, 9, none⟩ = some (.int .i64 0) := cell_of_block ZoW12.out 9 (by simp)
    have fo9W12 := frozen_of_block ZoW12.out 9
    have eo10W12 : W12.cell? ⟨w.heap.size + 1 + 1 + 1, 10, none⟩ = some (.int .i64 0) := cell_of_block ZoW12.out 10 (by simp)
    have fo10W12 := frozen_of_block ZoW12.out 10
    have eo11W12 : W12.cell? ⟨w.heap.size + 1 + 1 + 1, 11, none⟩ = some (.int .i64 0) := cell_of_block ZoW12.out 11 (by simp)
    have fo11W12 := frozen_of_block ZoW12.out 11
    have eo12W12 : W12.cell? ⟨w.heap.size + 1 + 1 + 1, 12, none⟩ = some (.int .i64 0) := cell_of_block ZoW12.out 12 (by simp)
    have fo12W12 := frozen_of_block ZoW12.out 12
    have loW12 := (Array.getElem?_eq_some_iff.1 ZoW12.out).1
    go_wp2_with fail
    refine bodyPost_ret (v := .agg #[.int .i64 sa, .int .i64 sb, .int .i64 (v.el + ea), .int .i64 (v.eh + eb), .int .i64 (v.pl + pa), .int .i64 (v.ph + pb), .int .i64 (v.gl + ga), .int .i64 (v.gh + gb), .int .i64 ga, .int .i64 gb, .int .i64 (v.tl + wa - ch), .int .i64 (v.th + wb - cl), .int .i64 v.c]) (by simp [results, Try.results69, go_sem, *]) rfl ⟨rfl, ?_⟩
    exact setAll_below HBW12.out HBW12.out.size (by omega) [.int .i64 sa, .int .i64 sb, .int .i64 (v.el + ea), .int .i64 (v.eh + eb), .int .i64 (v.pl + pa), .int .i64 (v.ph + pb), .int .i64 (v.gl + ga), .int .i64 (v.gh + gb), .int .i64 ga, .int .i64 gb, .int .i64 (v.tl + wa - ch), .int .i64 (v.th + wb - cl), .int .i64 v.c] 0
end Go.Proofs.Ytecbacbecopbeaa
