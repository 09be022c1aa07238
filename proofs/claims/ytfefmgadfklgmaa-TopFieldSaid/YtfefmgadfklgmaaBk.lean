/- Contract of hour. No conditions beyond each theorem's own. -/
import Derived.Test.YtfefmgadfklgmaaBj
import Derived.Test.YtfefmgadfklgmaaBz
set_option linter.unusedVariables false
set_option linter.unusedSimpArgs false
set_option linter.unusedSectionVars false
set_option linter.constructorNameAsVariable false
namespace Go.Proofs.Ytfefmgadfklgmaa
open Go.RowKit

attribute [local go_sem] gw_cell gw_frozen gw_size

theorem infoPS : (Try.prog.info? 86).map (fun i => (i.zero, i.size)) = some (some (.agg #[.int .i64 0, .int .i64 0]), 2) := by kernel_rfl

set_option maxRecDepth 100000 in
set_option maxHeartbeats 16000000 in
theorem hour_any (by_ : Nat) (y : Yst) (v : Vat) (cl ch : Int) (w : World) (hy : y.At w by_) (hf : y.Fits) (hB : ystB y = true) (hv : vatB v = true) (c0 : 0 ≤ cl) (c1 : cl ≤ ch) (c2 : ch ≤ 150000) :
    Calls Try.prog 51 #[.pointer (some ⟨by_, 0, none⟩), v.val, .agg #[.int .i64 cl, .int .i64 ch]] w fun e w' => e = .returned (y.hour v cl ch).val ∧ Below w.heap.size w w' := by
  unfold Vat.val
  obtain ⟨W1, hW1⟩ : ∃ W1, ((w.alloc (.cells #[.int .i64 v.sl, .int .i64 v.sh, .int .i64 v.el, .int .i64 v.eh, .int .i64 v.pl, .int .i64 v.ph, .int .i64 v.gl, .int .i64 v.gh, .int .i64 v.ol, .int .i64 v.oh, .int .i64 v.tl, .int .i64 v.th, .int .i64 v.c] 53)).alloc (.cells #[.int .i64 cl, .int .i64 ch] 23)).alloc (.cells #[.int .i64 0, .int .i64 0, .int .i64 0, .int .i64 0, .int .i64 0, .int .i64 0, .int .i64 0, .int .i64 0, .int .i64 0, .int .i64 0, .int .i64 0, .int .i64 0, .int .i64 0] 53) = W1 := ⟨_, rfl⟩
  have hBc : Below w.heap.size w W1 := by rw [← hW1]; exact ((below_alloc _ _).alloc (by simp) _).alloc (by simp <;> omega) _
  have zc0 : W1.heap[w.heap.size]? = some (.cells #[.int .i64 v.sl, .int .i64 v.sh, .int .i64 v.el, .int .i64 v.eh, .int .i64 v.pl, .int .i64 v.ph, .int .i64 v.gl, .int .i64 v.gh, .int .i64 v.ol, .int .i64 v.oh, .int .i64 v.tl, .int .i64 v.th, .int .i64 v.c] 53 (0, 0)) := by rw [← hW1]; exact alloc_keep (alloc_keep (alloc_at rfl))
  have zc1 : W1.heap[w.heap.size + 1]? = some (.cells #[.int .i64 cl, .int .i64 ch] 23 (0, 0)) := by rw [← hW1]; exact alloc_keep (alloc_at (by simp))
  have zc2 : W1.heap[w.heap.size + 1 + 1]? = some (.cells #[.int .i64 0, .int .i64 0, .int .i64 0, .int .i64 0, .int .i64 0, .int .i64 0, .int .i64 0, .int .i64 0, .int .i64 0, .int .i64 0, .int .i64 0, .int .i64 0, .int .i64 0] 53 (0, 0)) := by rw [← hW1]; exact alloc_at (by simp <;> omega)
  have c00 : W1.cell? ⟨w.heap.size, 0, none⟩ = some (.int .i64 v.sl) := cell_of_block zc0 0 (by simp)
  have c01 : W1.cell? ⟨w.heap.size, 1, none⟩ = some (.int .i64 v.sh) := cell_of_block zc0 1 (by simp)
  have c02 : W1.cell? ⟨w.heap.size, 2, none⟩ = some (.int .i64 v.el) := cell_of_block zc0 2 (by simp)
  have c03 : W1.cell? ⟨w.heap.size, 3, none⟩ = some (.int .i64 v.eh) := cell_of_block zc0 3 (by simp)
  have c04 : W1.cell? ⟨w.heap.size, 4, none⟩ = some (.int .i64 v.pl) := cell_of_block zc0 4 (by simp)
  have c05 : W1.cell? ⟨w.heap.size, 5, none⟩ = some (.int .i64 v.ph) := cell_of_block zc0 5 (by simp)
  have c06 : W1.cell? ⟨w.heap.size, 6, none⟩ = some (.int .i64 v.gl) := cell_of_block zc0 6 (by simp)
  have c07 : W1.cell? ⟨w.heap.size, 7, none⟩ = some (.int .i64 v.gh) := cell_of_block zc0 7 (by simp)
  have c08 : W1.cell? ⟨w.heap.size, 8, none⟩ = some (.int .i64 v.ol) := cell_of_block zc0 8 (by simp)
  have c09 : W1.cell? ⟨w.heap.size, 9, none⟩ = some (.int .i64 v.oh) := cell_of_block zc0 9 (by simp)
  have c010 : W1.cell? ⟨w.heap.size, 10, none⟩ = some (.int .i64 v.tl) := cell_of_block zc0 10 (by simp)
  have c011 : W1.cell? ⟨w.heap.size, 11, none⟩ = some (.int .i64 v.th) := cell_of_block zc0 11 (by simp)
  have c012 : W1.cell? ⟨w.heap.size, 12, none⟩ = some (.int .i64 v.c) := cell_of_block zc0 12 (by simp)
  have c10 : W1.cell? ⟨w.heap.size + 1, 0, none⟩ = some (.int .i64 cl) := cell_of_block zc1 0 (by simp)
  have c11 : W1.cell? ⟨w.heap.size + 1, 1, none⟩ = some (.int .i64 ch) := cell_of_block zc1 1 (by simp)
  have c20 : W1.cell? ⟨w.heap.size + 1 + 1, 0, none⟩ = some (.int .i64 0) := cell_of_block zc2 0 (by simp)
  have c21 : W1.cell? ⟨w.heap.size + 1 + 1, 1, none⟩ = some (.int .i64 0) := cell_of_block zc2 1 (by simp)
  have c22 : W1.cell? ⟨w.heap.size + 1 + 1, 2, none⟩ = some (.int .i64 0) := cell_of_block zc2 2 (by simp)
  have c23 : W1.cell? ⟨w.heap.size + 1 + 1, 3, none⟩ = some (.int .i64 0) := cell_of_block zc2 3 (by simp)
  have c24 : W1.cell? ⟨w.heap.size + 1 + 1, 4, none⟩ = some (.int .i64 0) := cell_of_block zc2 4 (by simp)
  have c25 : W1.cell? ⟨w.heap.size + 1 + 1, 5, none⟩ = some (.int .i64 0) := cell_of_block zc2 5 (by simp)
  have c26 : W1.cell? ⟨w.heap.size + 1 + 1, 6, none⟩ = some (.int .i64 0) := cell_of_block zc2 6 (by simp)
  have c27 : W1.cell? ⟨w.heap.size + 1 + 1, 7, none⟩ = some (.int .i64 0) := cell_of_block zc2 7 (by simp)
  have c28 : W1.cell? ⟨w.heap.size + 1 + 1, 8, none⟩ = some (.int .i64 0) := cell_of_block zc2 8 (by simp)
  have c29 : W1.cell? ⟨w.heap.size + 1 + 1, 9, none⟩ = some (.int .i64 0) := cell_of_block zc2 9 (by simp)
  have c210 : W1.cell? ⟨w.heap.size + 1 + 1, 10, none⟩ = some (.int .i64 0) := cell_of_block zc2 10 (by simp)
  have c211 : W1.cell? ⟨w.heap.size + 1 + 1, 11, none⟩ = some (.int .i64 0) := cell_of_block zc2 11 (by simp)
  have c212 : W1.cell? ⟨w.heap.size + 1 + 1, 12, none⟩ = some (.int .i64 0) := cell_of_block zc2 12 (by simp)
  have lc0 := (Array.getElem?_eq_some_iff.1 zc0).1
  have lc1 := (Array.getElem?_eq_some_iff.1 zc1).1
  have lc2 := (Array.getElem?_eq_some_iff.1 zc2).1
  have Zc0 := Lib.hid zc0
  have Zc1 := Lib.hid zc1
  have Zc2 := Lib.hid zc2
  clear zc0 zc1 zc2
  have HBc := Lib.hid hBc; clear hBc
  have HWc := Lib.hid hW1; clear hW1
  have hmf : ∀ (fn : Fn) (first cap : Array Value) (w : World), (Instr.makeFunc fn first cap).run Try.prog w = .ok (.func fn first cap) w := fun _ _ _ _ => rfl
  obtain ⟨⟨v0, v1, v2⟩, ⟨e0, e1, e2⟩, ⟨p0, p1, p2⟩, ⟨g0, g1, g2⟩, -, ⟨t0, t1, t2⟩, k0, k1⟩ := vatB_t hv
  obtain ⟨-, -, -, -, ⟨s0, s1, s2⟩, ⟨q0, q1, q2⟩, h0, h1, h2⟩ := ystB_t hB
  obtain ⟨⟨a0, a1, a2⟩, ⟨a3, a4, a5⟩, ⟨a6, a7, a8⟩, ⟨a9, a10, a11⟩, ⟨a12, a13, a14⟩, ⟨a15, a16⟩, a17, a18⟩ := hour_range hB hv
  obtain ⟨r0, r1, r2⟩ := rate_range hB t1
  have lby := (Array.getElem?_eq_some_iff.1 hy.blk).1
  have EN := Lib.hid (show y.hour v cl ch = ⟨y.sa v, y.sb v, v.el + y.ea v, v.eh + y.eb v, v.pl + y.pa v, v.ph + y.pb v, v.gl + y.ga v, v.gh + y.gb v, y.ga v, y.gb v, v.tl + y.wa v + -ch, v.th + y.wb v + -cl, v.c⟩ from rfl)
  have C1 := fun W (hb : Below w.heap.size w W) => rate_any by_ y v.tl v.th W (hy.below hb) hf hB t1
  have C2 := fun W => part_any v.sl v.sh (y.rl v.tl v.th) (y.rh v.tl v.th) W (part_range v0 r0 (by omega) (Int.le_trans v1 v2)).1.1 (by have := (part_range v0 r0 (show y.rl v.tl v.th ≤ 1000 by omega) (Int.le_trans v1 v2)).1.2; omega) (part_range (show 0 ≤ v.sh by omega) (show 0 ≤ y.rh v.tl v.th by omega) r2 v2).1.1 (by have := (part_range (show 0 ≤ v.sh by omega) (show 0 ≤ y.rh v.tl v.th by omega) r2 v2).1.2; omega)
  have C3 := fun W => part_any (y.ea v) (y.eb v) y.gl y.gh W (part_range a0 q0 (show y.gl ≤ 1000 by omega) (show y.ea v ≤ 1073741824 by omega)).1.1 (by have := (part_range a0 q0 (show y.gl ≤ 1000 by omega) (show y.ea v ≤ 1073741824 by omega)).1.2; omega) (part_range (show 0 ≤ y.eb v by omega) (show 0 ≤ y.gh by omega) q2 (show y.eb v ≤ 1073741824 by omega)).1.1 (by have := (part_range (show 0 ≤ y.eb v by omega) (show 0 ≤ y.gh by omega) q2 (show y.eb v ≤ 1073741824 by omega)).1.2; omega)
  have C4 := fun W => part_any (y.ea v) (y.eb v) y.sl y.sh W (part_range a0 s0 (show y.sl ≤ 1000 by omega) (show y.ea v ≤ 1073741824 by omega)).1.1 (by have := (part_range a0 s0 (show y.sl ≤ 1000 by omega) (show y.ea v ≤ 1073741824 by omega)).1.2; omega) (part_range (show 0 ≤ y.eb v by omega) (show 0 ≤ y.sh by omega) s2 (show y.eb v ≤ 1073741824 by omega)).1.1 (by have := (part_range (show 0 ≤ y.eb v by omega) (show 0 ≤ y.sh by omega) s2 (show y.eb v ≤ 1073741824 by omega)).1.2; omega)
  have C5 := fun W => part_any v.sl v.sh (1000 - y.rh v.tl v.th) (1000 - y.rl v.tl v.th) W (part_range v0 (show 0 ≤ 1000 - y.rh v.tl v.th by omega) (by omega) (Int.le_trans v1 v2)).1.1 (by have := (part_range v0 (show 0 ≤ 1000 - y.rh v.tl v.th by omega) (by omega) (Int.le_trans v1 v2)).1.2; omega) (part_range (show 0 ≤ v.sh by omega) (show 0 ≤ 1000 - y.rl v.tl v.th by omega) (by omega) v2).1.1 (by have := (part_range (show 0 ≤ v.sh by omega) (show 0 ≤ 1000 - y.rl v.tl v.th by omega) (by omega) v2).1.2; omega)
  have C6 := fun W => times_any (y.ea v) (y.eb v) y.hl y.hh 1000 v.c W a15 (by omega) (by omega) (by omega) a17 (by omega) (by omega) (by omega) k0
  rw [show v.sl * y.rl v.tl v.th / 1000 = y.ea v from rfl, show upI (v.sh * y.rh v.tl v.th) 1000 = y.eb v from rfl] at C2
  rw [show y.ea v * y.gl / 1000 = y.ga v from rfl, show upI (y.eb v * y.gh) 1000 = y.gb v from rfl] at C3
  rw [show y.ea v * y.sl / 1000 = y.pa v from rfl, show upI (y.eb v * y.sh) 1000 = y.pb v from rfl] at C4
  rw [show v.sl * (1000 - y.rh v.tl v.th) / 1000 = y.sa v from rfl, show upI (v.sh * (1000 - y.rl v.tl v.th)) 1000 = y.sb v from rfl] at C5
  rw [show y.ea v * y.hl * 1000 / v.c = y.wa v from rfl, show upI (y.eb v * y.hh * 1000) v.c = y.wb v from rfl] at C6
  generalize y.ea v = ea at *
  generalize y.eb v = eb at *
  generalize y.pa v = pa at *
  generalize y.pb v = pb at *
  generalize y.ga v = ga at *
  generalize y.gb v = gb at *
  generalize y.wa v = wa at *
  generalize y.wb v = wb at *
  generalize y.sa v = sa at *
  generalize y.sb v = sb at *
  generalize y.rl v.tl v.th = rl at *
  generalize y.rh v.tl v.th = rh at *
  have C7 := Lib.hid (fun W => plus_any v.el v.eh ea eb W (by omega) (by omega) (by omega) (by omega))
  have C8 := Lib.hid (fun W => plus_any v.pl v.ph pa pb W (by omega) (by omega) (by omega) (by omega))
  have C9 := Lib.hid (fun W => plus_any v.gl v.gh ga gb W (by omega) (by omega) (by omega) (by omega))
  have C10 := Lib.hid (fun W => plus_any v.tl v.th wa wb W (by omega) (by omega) (by omega) (by omega))
  have C11 := Lib.hid (fun W => plus_any (v.tl + wa) (v.th + wb) (-ch) (-cl) W (by omega) (by omega) (by omega) (by omega))
  have D1 := Lib.hid C1
  have D2 := Lib.hid C2
  have D3 := Lib.hid C3
  have D4 := Lib.hid C4
  have D5 := Lib.hid C5
  have D6 := Lib.hid C6
  clear C1 C2 C3 C4 C5 C6 v0 v1 v2 e0 e1 e2 p0 p1 p2 g0 g1 g2 t1 k0 k1 s0 s1 s2 q0 q1 q2 h0 h1 h2 a0 a1 a2 a3 a4 a5 a6 a7 a8 a9 a10 a11 a12 a13 a14 a15 a16 a17 a18 t0 t2 hB hv hf
  have Zby := Lib.hid ((HBc.out.block by_ lby).trans hy.blk)
  have HYI := Lib.hid hy; clear hy
  have sz := HBc.out.size
  rw [EN.out]
  clear EN
  dsimp only
  go_enter Try.func51, Try.ntmps51
  go_upto_region 1 with (fail)
  rw [HWc.out]
  go_wp2_with fail
  refine (Calls.grown (D1.out _ HBc.out)).mono ?_
  rintro e w1 ⟨rfl, z1, rfl⟩
  go_upto_region 2 with (fail)
  obtain ⟨W2, hW2⟩ : ∃ W2, ((gw W1 z1)).alloc (.cells #[.int .i64 rl, .int .i64 rh] 86) = W2 := ⟨_, rfl⟩
  have hbW2 : Below W1.heap.size W1 W2 := by rw [← hW2]; exact (below_gw W1 z1).alloc (by simp [gw_size]) _
  have ZvW2 := Lib.hid ((hbW2.block _ (Array.getElem?_eq_some_iff.1 Zc0.out).1).trans Zc0.out)
  have ZcW2 := Lib.hid ((hbW2.block _ (Array.getElem?_eq_some_iff.1 Zc1.out).1).trans Zc1.out)
  have ZoW2 := Lib.hid ((hbW2.block _ (Array.getElem?_eq_some_iff.1 Zc2.out).1).trans Zc2.out)
  have ZyW2 := Lib.hid ((hbW2.block _ (Array.getElem?_eq_some_iff.1 Zby.out).1).trans Zby.out)
  have zrW2 : W2.heap[W1.heap.size + z1.bs.size]? = some (.cells #[.int .i64 rl, .int .i64 rh] 86 (0, 0)) := by rw [← hW2]; exact alloc_at (by simp [gw_size])
  have ZrW2 := Lib.hid zrW2; clear zrW2
  have HBW2 := Lib.hid (thru hbW2 HBc.out)
  have SBW2 := Lib.hid hbW2; clear hbW2
  have HWW2 := Lib.hid hW2; clear hW2
  rw [HWW2.out]
  clear c00 c01 c02 c03 c04 c05 c06 c07 c08 c09 c010 c011 c012 c10 c11 c20 c21 c22 c23 c24 c25 c26 c27 c28 c29 c210 c211 c212
  have zsW2 := SBW2.out.size
  have ev0W2 : W2.cell? ⟨w.heap.size, 0, none⟩ = some (.int .i64 v.sl) := cell_of_block ZvW2.out 0 (by simp)
  have ev1W2 : W2.cell? ⟨w.heap.size, 1, none⟩ = some (.int .i64 v.sh) := cell_of_block ZvW2.out 1 (by simp)
  have ev2W2 : W2.cell? ⟨w.heap.size, 2, none⟩ = some (.int .i64 v.el) := cell_of_block ZvW2.out 2 (by simp)
  have ev3W2 : W2.cell? ⟨w.heap.size, 3, none⟩ = some (.int .i64 v.eh) := cell_of_block ZvW2.out 3 (by simp)
  have ev4W2 : W2.cell? ⟨w.heap.size, 4, none⟩ = some (.int .i64 v.pl) := cell_of_block ZvW2.out 4 (by simp)
  have ev5W2 : W2.cell? ⟨w.heap.size, 5, none⟩ = some (.int .i64 v.ph) := cell_of_block ZvW2.out 5 (by simp)
  have ev6W2 : W2.cell? ⟨w.heap.size, 6, none⟩ = some (.int .i64 v.gl) := cell_of_block ZvW2.out 6 (by simp)
  have ev7W2 : W2.cell? ⟨w.heap.size, 7, none⟩ = some (.int .i64 v.gh) := cell_of_block ZvW2.out 7 (by simp)
  have ev8W2 : W2.cell? ⟨w.heap.size, 8, none⟩ = some (.int .i64 v.ol) := cell_of_block ZvW2.out 8 (by simp)
  have ev9W2 : W2.cell? ⟨w.heap.size, 9, none⟩ = some (.int .i64 v.oh) := cell_of_block ZvW2.out 9 (by simp)
  have ev10W2 : W2.cell? ⟨w.heap.size, 10, none⟩ = some (.int .i64 v.tl) := cell_of_block ZvW2.out 10 (by simp)
  have ev11W2 : W2.cell? ⟨w.heap.size, 11, none⟩ = some (.int .i64 v.th) := cell_of_block ZvW2.out 11 (by simp)
  have ev12W2 : W2.cell? ⟨w.heap.size, 12, none⟩ = some (.int .i64 v.c) := cell_of_block ZvW2.out 12 (by simp)
  have lvW2 := (Array.getElem?_eq_some_iff.1 ZvW2.out).1
  go_upto_region 3 with (fail)
  obtain ⟨W3, hW3⟩ : ∃ W3, ((W2)).alloc (.cells #[.int .i64 v.sl, .int .i64 v.sh] 86) = W3 := ⟨_, rfl⟩
  have hbW3 : Below W2.heap.size W2 W3 := by rw [← hW3]; exact (Below.refl _ W2).alloc (by simp [gw_size]) _
  have ZvW3 := Lib.hid ((hbW3.block _ (Array.getElem?_eq_some_iff.1 ZvW2.out).1).trans ZvW2.out)
  have ZcW3 := Lib.hid ((hbW3.block _ (Array.getElem?_eq_some_iff.1 ZcW2.out).1).trans ZcW2.out)
  have ZoW3 := Lib.hid ((hbW3.block _ (Array.getElem?_eq_some_iff.1 ZoW2.out).1).trans ZoW2.out)
  have ZyW3 := Lib.hid ((hbW3.block _ (Array.getElem?_eq_some_iff.1 ZyW2.out).1).trans ZyW2.out)
  have ZrW3 := Lib.hid ((hbW3.block _ (Array.getElem?_eq_some_iff.1 ZrW2.out).1).trans ZrW2.out)
  have zsW3 : W3.heap[W2.heap.size]? = some (.cells #[.int .i64 v.sl, .int .i64 v.sh] 86 (0, 0)) := by rw [← hW3]; exact alloc_at (by simp [gw_size])
  have ZsW3 := Lib.hid zsW3; clear zsW3
  have HBW3 := Lib.hid (thru hbW3 HBW2.out)
  have SBW3 := Lib.hid hbW3; clear hbW3
  have HWW3 := Lib.hid hW3; clear hW3
  rw [HWW3.out]
  clear ev0W2 ev1W2 ev2W2 ev3W2 ev4W2 ev5W2 ev6W2 ev7W2 ev8W2 ev9W2 ev10W2 ev11W2 ev12W2
  have zsW3 := SBW3.out.size
  have es0W3 : W3.cell? ⟨W2.heap.size, 0, none⟩ = some (.int .i64 v.sl) := cell_of_block ZsW3.out 0 (by simp)
  have es1W3 : W3.cell? ⟨W2.heap.size, 1, none⟩ = some (.int .i64 v.sh) := cell_of_block ZsW3.out 1 (by simp)
  have lsW3 := (Array.getElem?_eq_some_iff.1 ZsW3.out).1
  have er0W3 : W3.cell? ⟨W1.heap.size + z1.bs.size, 0, none⟩ = some (.int .i64 rl) := cell_of_block ZrW3.out 0 (by simp)
  have er1W3 : W3.cell? ⟨W1.heap.size + z1.bs.size, 1, none⟩ = some (.int .i64 rh) := cell_of_block ZrW3.out 1 (by simp)
  have lrW3 := (Array.getElem?_eq_some_iff.1 ZrW3.out).1
  go_wp2_with fail
  refine (Calls.grown (D2.out _)).mono ?_
  rintro e w1 ⟨rfl, z2, rfl⟩
  go_upto_region 4 with (fail)
  obtain ⟨W4, hW4⟩ : ∃ W4, ((gw W3 z2)).alloc (.cells #[.int .i64 ea, .int .i64 eb] 86) = W4 := ⟨_, rfl⟩
  have hbW4 : Below W3.heap.size W3 W4 := by rw [← hW4]; exact (below_gw W3 z2).alloc (by simp [gw_size]) _
  have ZvW4 := Lib.hid ((hbW4.block _ (Array.getElem?_eq_some_iff.1 ZvW3.out).1).trans ZvW3.out)
  have ZcW4 := Lib.hid ((hbW4.block _ (Array.getElem?_eq_some_iff.1 ZcW3.out).1).trans ZcW3.out)
  have ZoW4 := Lib.hid ((hbW4.block _ (Array.getElem?_eq_some_iff.1 ZoW3.out).1).trans ZoW3.out)
  have ZyW4 := Lib.hid ((hbW4.block _ (Array.getElem?_eq_some_iff.1 ZyW3.out).1).trans ZyW3.out)
  have ZrW4 := Lib.hid ((hbW4.block _ (Array.getElem?_eq_some_iff.1 ZrW3.out).1).trans ZrW3.out)
  have ZsW4 := Lib.hid ((hbW4.block _ (Array.getElem?_eq_some_iff.1 ZsW3.out).1).trans ZsW3.out)
  have zeW4 : W4.heap[W3.heap.size + z2.bs.size]? = some (.cells #[.int .i64 ea, .int .i64 eb] 86 (0, 0)) := by rw [← hW4]; exact alloc_at (by simp [gw_size])
  have ZeW4 := Lib.hid zeW4; clear zeW4
  have HBW4 := Lib.hid (thru hbW4 HBW3.out)
  have SBW4 := Lib.hid hbW4; clear hbW4
  have HWW4 := Lib.hid hW4; clear hW4
  rw [HWW4.out]
  clear es0W3 es1W3 er0W3 er1W3
  have zsW4 := SBW4.out.size
  have ee0W4 : W4.cell? ⟨W3.heap.size + z2.bs.size, 0, none⟩ = some (.int .i64 ea) := cell_of_block ZeW4.out 0 (by simp)
  have ee1W4 : W4.cell? ⟨W3.heap.size + z2.bs.size, 1, none⟩ = some (.int .i64 eb) := cell_of_block ZeW4.out 1 (by simp)
  have leW4 := (Array.getElem?_eq_some_iff.1 ZeW4.out).1
  have ey0W4 : W4.cell? ⟨by_, 0, none⟩ = some (.slice y.aT y.nT y.cT) := cell_of_block ZyW4.out 0 (by simp)
  have ey1W4 : W4.cell? ⟨by_, 1, none⟩ = some (.slice y.aR y.nR y.cR) := cell_of_block ZyW4.out 1 (by simp)
  have ey2W4 : W4.cell? ⟨by_, 2, none⟩ = some (.int .i64 y.sl) := cell_of_block ZyW4.out 2 (by simp)
  have ey3W4 : W4.cell? ⟨by_, 3, none⟩ = some (.int .i64 y.sh) := cell_of_block ZyW4.out 3 (by simp)
  have ey4W4 : W4.cell? ⟨by_, 4, none⟩ = some (.int .i64 y.gl) := cell_of_block ZyW4.out 4 (by simp)
  have ey5W4 : W4.cell? ⟨by_, 5, none⟩ = some (.int .i64 y.gh) := cell_of_block ZyW4.out 5 (by simp)
  have ey6W4 : W4.cell? ⟨by_, 6, none⟩ = some (.int .i64 y.hl) := cell_of_block ZyW4.out 6 (by simp)
  have ey7W4 : W4.cell? ⟨by_, 7, none⟩ = some (.int .i64 y.hh) := cell_of_block ZyW4.out 7 (by simp)
  have lyW4 := (Array.getElem?_eq_some_iff.1 ZyW4.out).1
  go_wp2_with fail
  refine (Calls.grown (D3.out _)).mono ?_
  rintro e w1 ⟨rfl, z3, rfl⟩
  go_upto_region 6 with (fail)
  obtain ⟨W5, hW5⟩ : ∃ W5, ((gw W4 z3)).alloc (.cells #[.int .i64 ga, .int .i64 gb] 86) = W5 := ⟨_, rfl⟩
  have hbW5 : Below W4.heap.size W4 W5 := by rw [← hW5]; exact (below_gw W4 z3).alloc (by simp [gw_size]) _
  have ZvW5 := Lib.hid ((hbW5.block _ (Array.getElem?_eq_some_iff.1 ZvW4.out).1).trans ZvW4.out)
  have ZcW5 := Lib.hid ((hbW5.block _ (Array.getElem?_eq_some_iff.1 ZcW4.out).1).trans ZcW4.out)
  have ZoW5 := Lib.hid ((hbW5.block _ (Array.getElem?_eq_some_iff.1 ZoW4.out).1).trans ZoW4.out)
  have ZyW5 := Lib.hid ((hbW5.block _ (Array.getElem?_eq_some_iff.1 ZyW4.out).1).trans ZyW4.out)
  have ZrW5 := Lib.hid ((hbW5.block _ (Array.getElem?_eq_some_iff.1 ZrW4.out).1).trans ZrW4.out)
  have ZsW5 := Lib.hid ((hbW5.block _ (Array.getElem?_eq_some_iff.1 ZsW4.out).1).trans ZsW4.out)
  have ZeW5 := Lib.hid ((hbW5.block _ (Array.getElem?_eq_some_iff.1 ZeW4.out).1).trans ZeW4.out)
  have zgW5 : W5.heap[W4.heap.size + z3.bs.size]? = some (.cells #[.int .i64 ga, .int .i64 gb] 86 (0, 0)) := by rw [← hW5]; exact alloc_at (by simp [gw_size])
  have ZgW5 := Lib.hid zgW5; clear zgW5
  have HBW5 := Lib.hid (thru hbW5 HBW4.out)
  have SBW5 := Lib.hid hbW5; clear hbW5
  have HWW5 := Lib.hid hW5; clear hW5
  rw [HWW5.out]
  clear ee0W4 ee1W4 ey0W4 ey1W4 ey2W4 ey3W4 ey4W4 ey5W4 ey6W4 ey7W4
  have zsW5 := SBW5.out.size
  have es0W5 : W5.cell? ⟨W2.heap.size, 0, none⟩ = some (.int .i64 v.sl) := cell_of_block ZsW5.out 0 (by simp)
  have es1W5 : W5.cell? ⟨W2.heap.size, 1, none⟩ = some (.int .i64 v.sh) := cell_of_block ZsW5.out 1 (by simp)
  have lsW5 := (Array.getElem?_eq_some_iff.1 ZsW5.out).1
  have er0W5 : W5.cell? ⟨W1.heap.size + z1.bs.size, 0, none⟩ = some (.int .i64 rl) := cell_of_block ZrW5.out 0 (by simp)
  have er1W5 : W5.cell? ⟨W1.heap.size + z1.bs.size, 1, none⟩ = some (.int .i64 rh) := cell_of_block ZrW5.out 1 (by simp)
  have lrW5 := (Array.getElem?_eq_some_iff.1 ZrW5.out).1
  have ev0W5 : W5.cell? ⟨w.heap.size, 0, none⟩ = some (.int .i64 v.sl) := cell_of_block ZvW5.out 0 (by simp)
  have fv0W5 := frozen_of_block ZvW5.out 0
  have ev1W5 : W5.cell? ⟨w.heap.size, 1, none⟩ = some (.int .i64 v.sh) := cell_of_block ZvW5.out 1 (by simp)
  have fv1W5 := frozen_of_block ZvW5.out 1
  have ev2W5 : W5.cell? ⟨w.heap.size, 2, none⟩ = some (.int .i64 v.el) := cell_of_block ZvW5.out 2 (by simp)
  have fv2W5 := frozen_of_block ZvW5.out 2
  have ev3W5 : W5.cell? ⟨w.heap.size, 3, none⟩ = some (.int .i64 v.eh) := cell_of_block ZvW5.out 3 (by simp)
  have fv3W5 := frozen_of_block ZvW5.out 3
  have ev4W5 : W5.cell? ⟨w.heap.size, 4, none⟩ = some (.int .i64 v.pl) := cell_of_block ZvW5.out 4 (by simp)
  have fv4W5 := frozen_of_block ZvW5.out 4
  have ev5W5 : W5.cell? ⟨w.heap.size, 5, none⟩ = some (.int .i64 v.ph) := cell_of_block ZvW5.out 5 (by simp)
  have fv5W5 := frozen_of_block ZvW5.out 5
  have ev6W5 : W5.cell? ⟨w.heap.size, 6, none⟩ = some (.int .i64 v.gl) := cell_of_block ZvW5.out 6 (by simp)
  have fv6W5 := frozen_of_block ZvW5.out 6
  have ev7W5 : W5.cell? ⟨w.heap.size, 7, none⟩ = some (.int .i64 v.gh) := cell_of_block ZvW5.out 7 (by simp)
  have fv7W5 := frozen_of_block ZvW5.out 7
  have ev8W5 : W5.cell? ⟨w.heap.size, 8, none⟩ = some (.int .i64 v.ol) := cell_of_block ZvW5.out 8 (by simp)
  have fv8W5 := frozen_of_block ZvW5.out 8
  have ev9W5 : W5.cell? ⟨w.heap.size, 9, none⟩ = some (.int .i64 v.oh) := cell_of_block ZvW5.out 9 (by simp)
  have fv9W5 := frozen_of_block ZvW5.out 9
  have ev10W5 : W5.cell? ⟨w.heap.size, 10, none⟩ = some (.int .i64 v.tl) := cell_of_block ZvW5.out 10 (by simp)
  have fv10W5 := frozen_of_block ZvW5.out 10
  have ev11W5 : W5.cell? ⟨w.heap.size, 11, none⟩ = some (.int .i64 v.th) := cell_of_block ZvW5.out 11 (by simp)
  have fv11W5 := frozen_of_block ZvW5.out 11
  have ev12W5 : W5.cell? ⟨w.heap.size, 12, none⟩ = some (.int .i64 v.c) := cell_of_block ZvW5.out 12 (by simp)
  have fv12W5 := frozen_of_block ZvW5.out 12
  have lvW5 := (Array.getElem?_eq_some_iff.1 ZvW5.out).1
  go_wp2_with fail
  refine (Calls.grown (D5.out _)).mono ?_
  rintro e w1 ⟨rfl, z4, rfl⟩
  go_upto_region 7 with (fail)
  obtain ⟨W6, hW6⟩ : ∃ W6, (((gw W5 z4)).setCell ⟨w.heap.size, 0, none⟩ (.int .i64 sa)).setCell ⟨w.heap.size, 1, none⟩ (.int .i64 sb) = W6 := ⟨_, rfl⟩
  have hgW6 : W5.grownBy W6 (some (w.heap.size)) := by rw [← hW6]; exact grownBy_trans (grownBy_trans (grownBy_of_below (below_gw W5 z4) _) (grownBy_set _ _ _ _)) (grownBy_set _ _ _ _)
  have ZvW6 := Lib.hid (show W6.heap[w.heap.size]? = some (.cells #[.int .i64 sa, .int .i64 sb, .int .i64 v.el, .int .i64 v.eh, .int .i64 v.pl, .int .i64 v.ph, .int .i64 v.gl, .int .i64 v.gh, .int .i64 v.ol, .int .i64 v.oh, .int .i64 v.tl, .int .i64 v.th, .int .i64 v.c] 53 (0, 0)) by rw [← hW6]; exact block_set 1 _ (block_set 0 _ (((below_gw W5 z4).block _ (Array.getElem?_eq_some_iff.1 ZvW5.out).1).trans ZvW5.out)))
  have ZcW6 := Lib.hid ((hgW6.block _ (Array.getElem?_eq_some_iff.1 ZcW5.out).1 (by simp <;> omega)).trans ZcW5.out)
  have ZoW6 := Lib.hid ((hgW6.block _ (Array.getElem?_eq_some_iff.1 ZoW5.out).1 (by simp <;> omega)).trans ZoW5.out)
  have ZyW6 := Lib.hid ((hgW6.block _ (Array.getElem?_eq_some_iff.1 ZyW5.out).1 (by simp <;> omega)).trans ZyW5.out)
  have ZrW6 := Lib.hid ((hgW6.block _ (Array.getElem?_eq_some_iff.1 ZrW5.out).1 (by simp <;> omega)).trans ZrW5.out)
  have ZsW6 := Lib.hid ((hgW6.block _ (Array.getElem?_eq_some_iff.1 ZsW5.out).1 (by simp <;> omega)).trans ZsW5.out)
  have ZeW6 := Lib.hid ((hgW6.block _ (Array.getElem?_eq_some_iff.1 ZeW5.out).1 (by simp <;> omega)).trans ZeW5.out)
  have ZgW6 := Lib.hid ((hgW6.block _ (Array.getElem?_eq_some_iff.1 ZgW5.out).1 (by simp <;> omega)).trans ZgW5.out)
  have HBW6 := Lib.hid (HBW5.out.grown hgW6 HBW5.out.size (fun g hg => by cases hg; omega))
  have zsW6 := hgW6.size
  have GBW6 := Lib.hid hgW6; clear hgW6
  have HWW6 := Lib.hid hW6; clear hW6
  rw [HWW6.out]
  clear es0W5 es1W5 er0W5 er1W5 ev0W5 ev1W5 ev2W5 ev3W5 ev4W5 ev5W5 ev6W5 ev7W5 ev8W5 ev9W5 ev10W5 ev11W5 ev12W5 fv0W5 fv1W5 fv2W5 fv3W5 fv4W5 fv5W5 fv6W5 fv7W5 fv8W5 fv9W5 fv10W5 fv11W5 fv12W5
  have ev0W6 : W6.cell? ⟨w.heap.size, 0, none⟩ = some (.int .i64 sa) := cell_of_block ZvW6.out 0 (by simp)
  have fv0W6 := frozen_of_block ZvW6.out 0
  have ev1W6 : W6.cell? ⟨w.heap.size, 1, none⟩ = some (.int .i64 sb) := cell_of_block ZvW6.out 1 (by simp)
  have fv1W6 := frozen_of_block ZvW6.out 1
  have ev2W6 : W6.cell? ⟨w.heap.size, 2, none⟩ = some (.int .i64 v.el) := cell_of_block ZvW6.out 2 (by simp)
  have fv2W6 := frozen_of_block ZvW6.out 2
  have ev3W6 : W6.cell? ⟨w.heap.size, 3, none⟩ = some (.int .i64 v.eh) := cell_of_block ZvW6.out 3 (by simp)
  have fv3W6 := frozen_of_block ZvW6.out 3
  have ev4W6 : W6.cell? ⟨w.heap.size, 4, none⟩ = some (.int .i64 v.pl) := cell_of_block ZvW6.out 4 (by simp)
  have fv4W6 := frozen_of_block ZvW6.out 4
  have ev5W6 : W6.cell? ⟨w.heap.size, 5, none⟩ = some (.int .i64 v.ph) := cell_of_block ZvW6.out 5 (by simp)
  have fv5W6 := frozen_of_block ZvW6.out 5
  have ev6W6 : W6.cell? ⟨w.heap.size, 6, none⟩ = some (.int .i64 v.gl) := cell_of_block ZvW6.out 6 (by simp)
  have fv6W6 := frozen_of_block ZvW6.out 6
  have ev7W6 : W6.cell? ⟨w.heap.size, 7, none⟩ = some (.int .i64 v.gh) := cell_of_block ZvW6.out 7 (by simp)
  have fv7W6 := frozen_of_block ZvW6.out 7
  have ev8W6 : W6.cell? ⟨w.heap.size, 8, none⟩ = some (.int .i64 v.ol) := cell_of_block ZvW6.out 8 (by simp)
  have fv8W6 := frozen_of_block ZvW6.out 8
  have ev9W6 : W6.cell? ⟨w.heap.size, 9, none⟩ = some (.int .i64 v.oh) := cell_of_block ZvW6.out 9 (by simp)
  have fv9W6 := frozen_of_block ZvW6.out 9
  have ev10W6 : W6.cell? ⟨w.heap.size, 10, none⟩ = some (.int .i64 v.tl) := cell_of_block ZvW6.out 10 (by simp)
  have fv10W6 := frozen_of_block ZvW6.out 10
  have ev11W6 : W6.cell? ⟨w.heap.size, 11, none⟩ = some (.int .i64 v.th) := cell_of_block ZvW6.out 11 (by simp)
  have fv11W6 := frozen_of_block ZvW6.out 11
  have ev12W6 : W6.cell? ⟨w.heap.size, 12, none⟩ = some (.int .i64 v.c) := cell_of_block ZvW6.out 12 (by simp)
  have fv12W6 := frozen_of_block ZvW6.out 12
  have lvW6 := (Array.getElem?_eq_some_iff.1 ZvW6.out).1
  have ee0W6 : W6.cell? ⟨W3.heap.size + z2.bs.size, 0, none⟩ = some (.int .i64 ea) := cell_of_block ZeW6.out 0 (by simp)
  have ee1W6 : W6.cell? ⟨W3.heap.size + z2.bs.size, 1, none⟩ = some (.int .i64 eb) := cell_of_block ZeW6.out 1 (by simp)
  have leW6 := (Array.getElem?_eq_some_iff.1 ZeW6.out).1
  go_wp2_with fail
  refine (Calls.grown (C7.out _)).mono ?_
  rintro e w1 ⟨rfl, z5, rfl⟩
  go_upto_region 8 with (fail)
  obtain ⟨W7, hW7⟩ : ∃ W7, (((gw W6 z5)).setCell ⟨w.heap.size, 2, none⟩ (.int .i64 (v.el + ea))).setCell ⟨w.heap.size, 3, none⟩ (.int .i64 (v.eh + eb)) = W7 := ⟨_, rfl⟩
  have hgW7 : W6.grownBy W7 (some (w.heap.size)) := by rw [← hW7]; exact grownBy_trans (grownBy_trans (grownBy_of_below (below_gw W6 z5) _) (grownBy_set _ _ _ _)) (grownBy_set _ _ _ _)
  have ZvW7 := Lib.hid (show W7.heap[w.heap.size]? = some (.cells #[.int .i64 sa, .int .i64 sb, .int .i64 (v.el + ea), .int .i64 (v.eh + eb), .int .i64 v.pl, .int .i64 v.ph, .int .i64 v.gl, .int .i64 v.gh, .int .i64 v.ol, .int .i64 v.oh, .int .i64 v.tl, .int .i64 v.th, .int .i64 v.c] 53 (0, 0)) by rw [← hW7]; exact block_set 3 _ (block_set 2 _ (((below_gw W6 z5).block _ (Array.getElem?_eq_some_iff.1 ZvW6.out).1).trans ZvW6.out)))
  have ZcW7 := Lib.hid ((hgW7.block _ (Array.getElem?_eq_some_iff.1 ZcW6.out).1 (by simp <;> omega)).trans ZcW6.out)
  have ZoW7 := Lib.hid ((hgW7.block _ (Array.getElem?_eq_some_iff.1 ZoW6.out).1 (by simp <;> omega)).trans ZoW6.out)
  have ZyW7 := Lib.hid ((hgW7.block _ (Array.getElem?_eq_some_iff.1 ZyW6.out).1 (by simp <;> omega)).trans ZyW6.out)
  have ZrW7 := Lib.hid ((hgW7.block _ (Array.getElem?_eq_some_iff.1 ZrW6.out).1 (by simp <;> omega)).trans ZrW6.out)
  have ZsW7 := Lib.hid ((hgW7.block _ (Array.getElem?_eq_some_iff.1 ZsW6.out).1 (by simp <;> omega)).trans ZsW6.out)
  have ZeW7 := Lib.hid ((hgW7.block _ (Array.getElem?_eq_some_iff.1 ZeW6.out).1 (by simp <;> omega)).trans ZeW6.out)
  have ZgW7 := Lib.hid ((hgW7.block _ (Array.getElem?_eq_some_iff.1 ZgW6.out).1 (by simp <;> omega)).trans ZgW6.out)
  have HBW7 := Lib.hid (HBW6.out.grown hgW7 HBW6.out.size (fun g hg => by cases hg; omega))
  have zsW7 := hgW7.size
  have GBW7 := Lib.hid hgW7; clear hgW7
  have HWW7 := Lib.hid hW7; clear hW7
  rw [HWW7.out]
  clear ev0W6 ev1W6 ev2W6 ev3W6 ev4W6 ev5W6 ev6W6 ev7W6 ev8W6 ev9W6 ev10W6 ev11W6 ev12W6 fv0W6 fv1W6 fv2W6 fv3W6 fv4W6 fv5W6 fv6W6 fv7W6 fv8W6 fv9W6 fv10W6 fv11W6 fv12W6 ee0W6 ee1W6
  have ev0W7 : W7.cell? ⟨w.heap.size, 0, none⟩ = some (.int .i64 sa) := cell_of_block ZvW7.out 0 (by simp)
  have fv0W7 := frozen_of_block ZvW7.out 0
  have ev1W7 : W7.cell? ⟨w.heap.size, 1, none⟩ = some (.int .i64 sb) := cell_of_block ZvW7.out 1 (by simp)
  have fv1W7 := frozen_of_block ZvW7.out 1
  have ev2W7 : W7.cell? ⟨w.heap.size, 2, none⟩ = some (.int .i64 (v.el + ea)) := cell_of_block ZvW7.out 2 (by simp)
  have fv2W7 := frozen_of_block ZvW7.out 2
  have ev3W7 : W7.cell? ⟨w.heap.size, 3, none⟩ = some (.int .i64 (v.eh + eb)) := cell_of_block ZvW7.out 3 (by simp)
  have fv3W7 := frozen_of_block ZvW7.out 3
  have ev4W7 : W7.cell? ⟨w.heap.size, 4, none⟩ = some (.int .i64 v.pl) := cell_of_block ZvW7.out 4 (by simp)
  have fv4W7 := frozen_of_block ZvW7.out 4
  have ev5W7 : W7.cell? ⟨w.heap.size, 5, none⟩ = some (.int .i64 v.ph) := cell_of_block ZvW7.out 5 (by simp)
  have fv5W7 := frozen_of_block ZvW7.out 5
  have ev6W7 : W7.cell? ⟨w.heap.size, 6, none⟩ = some (.int .i64 v.gl) := cell_of_block ZvW7.out 6 (by simp)
  have fv6W7 := frozen_of_block ZvW7.out 6
  have ev7W7 : W7.cell? ⟨w.heap.size, 7, none⟩ = some (.int .i64 v.gh) := cell_of_block ZvW7.out 7 (by simp)
  have fv7W7 := frozen_of_block ZvW7.out 7
  have ev8W7 : W7.cell? ⟨w.heap.size, 8, none⟩ = some (.int .i64 v.ol) := cell_of_block ZvW7.out 8 (by simp)
  have fv8W7 := frozen_of_block ZvW7.out 8
  have ev9W7 : W7.cell? ⟨w.heap.size, 9, none⟩ = some (.int .i64 v.oh) := cell_of_block ZvW7.out 9 (by simp)
  have fv9W7 := frozen_of_block ZvW7.out 9
  have ev10W7 : W7.cell? ⟨w.heap.size, 10, none⟩ = some (.int .i64 v.tl) := cell_of_block ZvW7.out 10 (by simp)
  have fv10W7 := frozen_of_block ZvW7.out 10
  have ev11W7 : W7.cell? ⟨w.heap.size, 11, none⟩ = some (.int .i64 v.th) := cell_of_block ZvW7.out 11 (by simp)
  have fv11W7 := frozen_of_block ZvW7.out 11
  have ev12W7 : W7.cell? ⟨w.heap.size, 12, none⟩ = some (.int .i64 v.c) := cell_of_block ZvW7.out 12 (by simp)
  have fv12W7 := frozen_of_block ZvW7.out 12
  have lvW7 := (Array.getElem?_eq_some_iff.1 ZvW7.out).1
  have ey0W7 : W7.cell? ⟨by_, 0, none⟩ = some (.slice y.aT y.nT y.cT) := cell_of_block ZyW7.out 0 (by simp)
  have ey1W7 : W7.cell? ⟨by_, 1, none⟩ = some (.slice y.aR y.nR y.cR) := cell_of_block ZyW7.out 1 (by simp)
  have ey2W7 : W7.cell? ⟨by_, 2, none⟩ = some (.int .i64 y.sl) := cell_of_block ZyW7.out 2 (by simp)
  have ey3W7 : W7.cell? ⟨by_, 3, none⟩ = some (.int .i64 y.sh) := cell_of_block ZyW7.out 3 (by simp)
  have ey4W7 : W7.cell? ⟨by_, 4, none⟩ = some (.int .i64 y.gl) := cell_of_block ZyW7.out 4 (by simp)
  have ey5W7 : W7.cell? ⟨by_, 5, none⟩ = some (.int .i64 y.gh) := cell_of_block ZyW7.out 5 (by simp)
  have ey6W7 : W7.cell? ⟨by_, 6, none⟩ = some (.int .i64 y.hl) := cell_of_block ZyW7.out 6 (by simp)
  have ey7W7 : W7.cell? ⟨by_, 7, none⟩ = some (.int .i64 y.hh) := cell_of_block ZyW7.out 7 (by simp)
  have lyW7 := (Array.getElem?_eq_some_iff.1 ZyW7.out).1
  refine wp_region_gw_tail 10 (by kernel_rfl) (by kernel_rfl) ?_
  simp only [List.take_succ_cons, List.take_zero]
  repeat (go_big_quiet_step (first | (go_at_call 26; with_reducible exact Calls.gw_of (D4.out _)) | (go_at_call 69; with_reducible exact Calls.gw_of (C8.out _))))
  refine wpQuiet_nil ?_
  rintro _ ⟨z6, rfl⟩
  simp only [List.drop_succ_cons, List.drop_zero]
  go_upto_region 9 with (fail)
  obtain ⟨W8, hW8⟩ : ∃ W8, (((gw W7 z6)).setCell ⟨w.heap.size, 4, none⟩ (.int .i64 (v.pl + pa))).setCell ⟨w.heap.size, 5, none⟩ (.int .i64 (v.ph + pb)) = W8 := ⟨_, rfl⟩
  have hgW8 : W7.grownBy W8 (some (w.heap.size)) := by rw [← hW8]; exact grownBy_trans (grownBy_trans (grownBy_of_below (below_gw W7 z6) _) (grownBy_set _ _ _ _)) (grownBy_set _ _ _ _)
  have ZvW8 := Lib.hid (show W8.heap[w.heap.size]? = some (.cells #[.int .i64 sa, .int .i64 sb, .int .i64 (v.el + ea), .int .i64 (v.eh + eb), .int .i64 (v.pl + pa), .int .i64 (v.ph + pb), .int .i64 v.gl, .int .i64 v.gh, .int .i64 v.ol, .int .i64 v.oh, .int .i64 v.tl, .int .i64 v.th, .int .i64 v.c] 53 (0, 0)) by rw [← hW8]; exact block_set 5 _ (block_set 4 _ (((below_gw W7 z6).block _ (Array.getElem?_eq_some_iff.1 ZvW7.out).1).trans ZvW7.out)))
  have ZcW8 := Lib.hid ((hgW8.block _ (Array.getElem?_eq_some_iff.1 ZcW7.out).1 (by simp <;> omega)).trans ZcW7.out)
  have ZoW8 := Lib.hid ((hgW8.block _ (Array.getElem?_eq_some_iff.1 ZoW7.out).1 (by simp <;> omega)).trans ZoW7.out)
  have ZyW8 := Lib.hid ((hgW8.block _ (Array.getElem?_eq_some_iff.1 ZyW7.out).1 (by simp <;> omega)).trans ZyW7.out)
  have ZrW8 := Lib.hid ((hgW8.block _ (Array.getElem?_eq_some_iff.1 ZrW7.out).1 (by simp <;> omega)).trans ZrW7.out)
  have ZsW8 := Lib.hid ((hgW8.block _ (Array.getElem?_eq_some_iff.1 ZsW7.out).1 (by simp <;> omega)).trans ZsW7.out)
  have ZeW8 := Lib.hid ((hgW8.block _ (Array.getElem?_eq_some_iff.1 ZeW7.out).1 (by simp <;> omega)).trans ZeW7.out)
  have ZgW8 := Lib.hid ((hgW8.block _ (Array.getElem?_eq_some_iff.1 ZgW7.out).1 (by simp <;> omega)).trans ZgW7.out)
  have HBW8 := Lib.hid (HBW7.out.grown hgW8 HBW7.out.size (fun g hg => by cases hg; omega))
  have zsW8 := hgW8.size
  have GBW8 := Lib.hid hgW8; clear hgW8
  have HWW8 := Lib.hid hW8; clear hW8
  rw [HWW8.out]
  clear ev0W7 ev1W7 ev2W7 ev3W7 ev4W7 ev5W7 ev6W7 ev7W7 ev8W7 ev9W7 ev10W7 ev11W7 ev12W7 fv0W7 fv1W7 fv2W7 fv3W7 fv4W7 fv5W7 fv6W7 fv7W7 fv8W7 fv9W7 fv10W7 fv11W7 fv12W7 ey0W7 ey1W7 ey2W7 ey3W7 ey4W7 ey5W7 ey6W7 ey7W7
  have ev0W8 : W8.cell? ⟨w.heap.size, 0, none⟩ = some (.int .i64 sa) := cell_of_block ZvW8.out 0 (by simp)
  have fv0W8 := frozen_of_block ZvW8.out 0
  have ev1W8 : W8.cell? ⟨w.heap.size, 1, none⟩ = some (.int .i64 sb) := cell_of_block ZvW8.out 1 (by simp)
  have fv1W8 := frozen_of_block ZvW8.out 1
  have ev2W8 : W8.cell? ⟨w.heap.size, 2, none⟩ = some (.int .i64 (v.el + ea)) := cell_of_block ZvW8.out 2 (by simp)
  have fv2W8 := frozen_of_block ZvW8.out 2
  have ev3W8 : W8.cell? ⟨w.heap.size, 3, none⟩ = some (.int .i64 (v.eh + eb)) := cell_of_block ZvW8.out 3 (by simp)
  have fv3W8 := frozen_of_block ZvW8.out 3
  have ev4W8 : W8.cell? ⟨w.heap.size, 4, none⟩ = some (.int .i64 (v.pl + pa)) := cell_of_block ZvW8.out 4 (by simp)
  have fv4W8 := frozen_of_block ZvW8.out 4
  have ev5W8 : W8.cell? ⟨w.heap.size, 5, none⟩ = some (.int .i64 (v.ph + pb)) := cell_of_block ZvW8.out 5 (by simp)
  have fv5W8 := frozen_of_block ZvW8.out 5
  have ev6W8 : W8.cell? ⟨w.heap.size, 6, none⟩ = some (.int .i64 v.gl) := cell_of_block ZvW8.out 6 (by simp)
  have fv6W8 := frozen_of_block ZvW8.out 6
  have ev7W8 : W8.cell? ⟨w.heap.size, 7, none⟩ = some (.int .i64 v.gh) := cell_of_block ZvW8.out 7 (by simp)
  have fv7W8 := frozen_of_block ZvW8.out 7
  have ev8W8 : W8.cell? ⟨w.heap.size, 8, none⟩ = some (.int .i64 v.ol) := cell_of_block ZvW8.out 8 (by simp)
  have fv8W8 := frozen_of_block ZvW8.out 8
  have ev9W8 : W8.cell? ⟨w.heap.size, 9, none⟩ = some (.int .i64 v.oh) := cell_of_block ZvW8.out 9 (by simp)
  have fv9W8 := frozen_of_block ZvW8.out 9
  have ev10W8 : W8.cell? ⟨w.heap.size, 10, none⟩ = some (.int .i64 v.tl) := cell_of_block ZvW8.out 10 (by simp)
  have fv10W8 := frozen_of_block ZvW8.out 10
  have ev11W8 : W8.cell? ⟨w.heap.size, 11, none⟩ = some (.int .i64 v.th) := cell_of_block ZvW8.out 11 (by simp)
  have fv11W8 := frozen_of_block ZvW8.out 11
  have ev12W8 : W8.cell? ⟨w.heap.size, 12, none⟩ = some (.int .i64 v.c) := cell_of_block ZvW8.out 12 (by simp)
  have fv12W8 := frozen_of_block ZvW8.out 12
  have lvW8 := (Array.getElem?_eq_some_iff.1 ZvW8.out).1
  have eg0W8 : W8.cell? ⟨W4.heap.size + z3.bs.size, 0, none⟩ = some (.int .i64 ga) := cell_of_block ZgW8.out 0 (by simp)
  have eg1W8 : W8.cell? ⟨W4.heap.size + z3.bs.size, 1, none⟩ = some (.int .i64 gb) := cell_of_block ZgW8.out 1 (by simp)
  have lgW8 := (Array.getElem?_eq_some_iff.1 ZgW8.out).1
  have BD := Lib.hid (below_drew W8)
  have ne : w.heap.size ≠ W4.heap.size + z3.bs.size := by omega
  have ne2 : W4.heap.size + z3.bs.size ≠ w.heap.size := by omega
  go_cut [58] (fun _ wx => ∃ w9, Hid (Below W8.heap.size W8 w9) ∧ wx = setAll w9 (w.heap.size) 6 [.int .i64 (v.gl + ga), .int .i64 (v.gh + gb), .int .i64 ga, .int .i64 gb])
  case first =>
    go_region_with (first | (go_at_call 69; with_reducible refine (C9.out _).mono ?_; rintro e w9 ⟨rfl, hb9⟩
                             have B9 := Lib.hid (thru hb9 BD.out); clear hb9
                             have k0 := below_cell B9.out eg0W8
                             have k1 := below_cell B9.out eg1W8
                             have j6 := (B9.out.frozen (p := ⟨w.heap.size, 6, none⟩) lvW8).trans fv6W8
                             have j7 := (B9.out.frozen (p := ⟨w.heap.size, 7, none⟩) lvW8).trans fv7W8
                             have j8 := (B9.out.frozen (p := ⟨w.heap.size, 8, none⟩) lvW8).trans fv8W8
                             have j9 := (B9.out.frozen (p := ⟨w.heap.size, 9, none⟩) lvW8).trans fv9W8
                             have i6 := below_cell B9.out ev6W8
                             have i7 := below_cell B9.out ev7W8
                             have i8 := below_cell B9.out ev8W8
                             have i9 := below_cell B9.out ev9W8
                             have lv9 := Nat.lt_of_lt_of_le lvW8 B9.out.size))
    all_goals
      go_wp2_with fail
      go_meet
      exact ⟨w9, B9, rfl⟩
  case rest =>
    obtain ⟨w9, B9, hwc⟩ := hcut
    clear ev0W8 ev1W8 ev2W8 ev3W8 ev4W8 ev5W8 ev6W8 ev7W8 ev8W8 ev9W8 ev10W8 ev11W8 ev12W8 fv0W8 fv1W8 fv2W8 fv3W8 fv4W8 fv5W8 fv6W8 fv7W8 fv8W8 fv9W8 fv10W8 fv11W8 fv12W8 eg0W8 eg1W8
    have hg9 : W8.grownBy wc (some (w.heap.size)) := by rw [hwc]; exact grownBy_trans (grownBy_of_below B9.out _) (setAll_grown _ _ 6 w9)
    have Zvwc := Lib.hid (show wc.heap[w.heap.size]? = some (.cells #[.int .i64 sa, .int .i64 sb, .int .i64 (v.el + ea), .int .i64 (v.eh + eb), .int .i64 (v.pl + pa), .int .i64 (v.ph + pb), .int .i64 (v.gl + ga), .int .i64 (v.gh + gb), .int .i64 ga, .int .i64 gb, .int .i64 v.tl, .int .i64 v.th, .int .i64 v.c] 53 (0, 0)) by rw [hwc]; exact block_set 9 _ (block_set 8 _ (block_set 7 _ (block_set 6 _ (((B9.out.block _ (Array.getElem?_eq_some_iff.1 ZvW8.out).1).trans ZvW8.out))))))
    have Zcwc := Lib.hid ((hg9.block _ (Array.getElem?_eq_some_iff.1 ZcW8.out).1 (by simp <;> omega)).trans ZcW8.out)
    have Zowc := Lib.hid ((hg9.block _ (Array.getElem?_eq_some_iff.1 ZoW8.out).1 (by simp <;> omega)).trans ZoW8.out)
    have Zywc := Lib.hid ((hg9.block _ (Array.getElem?_eq_some_iff.1 ZyW8.out).1 (by simp <;> omega)).trans ZyW8.out)
    have Zrwc := Lib.hid ((hg9.block _ (Array.getElem?_eq_some_iff.1 ZrW8.out).1 (by simp <;> omega)).trans ZrW8.out)
    have Zswc := Lib.hid ((hg9.block _ (Array.getElem?_eq_some_iff.1 ZsW8.out).1 (by simp <;> omega)).trans ZsW8.out)
    have Zewc := Lib.hid ((hg9.block _ (Array.getElem?_eq_some_iff.1 ZeW8.out).1 (by simp <;> omega)).trans ZeW8.out)
    have Zgwc := Lib.hid ((hg9.block _ (Array.getElem?_eq_some_iff.1 ZgW8.out).1 (by simp <;> omega)).trans ZgW8.out)
    have HBwc := Lib.hid (HBW8.out.grown hg9 HBW8.out.size (fun g hg => by cases hg; omega))
    have zswc := hg9.size
    clear hg9 hwc B9
    have ee0wc : wc.cell? ⟨W3.heap.size + z2.bs.size, 0, none⟩ = some (.int .i64 ea) := cell_of_block Zewc.out 0 (by simp)
    have ee1wc : wc.cell? ⟨W3.heap.size + z2.bs.size, 1, none⟩ = some (.int .i64 eb) := cell_of_block Zewc.out 1 (by simp)
    have lewc := (Array.getElem?_eq_some_iff.1 Zewc.out).1
    have ey0wc : wc.cell? ⟨by_, 0, none⟩ = some (.slice y.aT y.nT y.cT) := cell_of_block Zywc.out 0 (by simp)
    have ey1wc : wc.cell? ⟨by_, 1, none⟩ = some (.slice y.aR y.nR y.cR) := cell_of_block Zywc.out 1 (by simp)
    have ey2wc : wc.cell? ⟨by_, 2, none⟩ = some (.int .i64 y.sl) := cell_of_block Zywc.out 2 (by simp)
    have ey3wc : wc.cell? ⟨by_, 3, none⟩ = some (.int .i64 y.sh) := cell_of_block Zywc.out 3 (by simp)
    have ey4wc : wc.cell? ⟨by_, 4, none⟩ = some (.int .i64 y.gl) := cell_of_block Zywc.out 4 (by simp)
    have ey5wc : wc.cell? ⟨by_, 5, none⟩ = some (.int .i64 y.gh) := cell_of_block Zywc.out 5 (by simp)
    have ey6wc : wc.cell? ⟨by_, 6, none⟩ = some (.int .i64 y.hl) := cell_of_block Zywc.out 6 (by simp)
    have ey7wc : wc.cell? ⟨by_, 7, none⟩ = some (.int .i64 y.hh) := cell_of_block Zywc.out 7 (by simp)
    have lywc := (Array.getElem?_eq_some_iff.1 Zywc.out).1
    have ev0wc : wc.cell? ⟨w.heap.size, 0, none⟩ = some (.int .i64 sa) := cell_of_block Zvwc.out 0 (by simp)
    have ev1wc : wc.cell? ⟨w.heap.size, 1, none⟩ = some (.int .i64 sb) := cell_of_block Zvwc.out 1 (by simp)
    have ev2wc : wc.cell? ⟨w.heap.size, 2, none⟩ = some (.int .i64 (v.el + ea)) := cell_of_block Zvwc.out 2 (by simp)
    have ev3wc : wc.cell? ⟨w.heap.size, 3, none⟩ = some (.int .i64 (v.eh + eb)) := cell_of_block Zvwc.out 3 (by simp)
    have ev4wc : wc.cell? ⟨w.heap.size, 4, none⟩ = some (.int .i64 (v.pl + pa)) := cell_of_block Zvwc.out 4 (by simp)
    have ev5wc : wc.cell? ⟨w.heap.size, 5, none⟩ = some (.int .i64 (v.ph + pb)) := cell_of_block Zvwc.out 5 (by simp)
    have ev6wc : wc.cell? ⟨w.heap.size, 6, none⟩ = some (.int .i64 (v.gl + ga)) := cell_of_block Zvwc.out 6 (by simp)
    have ev7wc : wc.cell? ⟨w.heap.size, 7, none⟩ = some (.int .i64 (v.gh + gb)) := cell_of_block Zvwc.out 7 (by simp)
    have ev8wc : wc.cell? ⟨w.heap.size, 8, none⟩ = some (.int .i64 ga) := cell_of_block Zvwc.out 8 (by simp)
    have ev9wc : wc.cell? ⟨w.heap.size, 9, none⟩ = some (.int .i64 gb) := cell_of_block Zvwc.out 9 (by simp)
    have ev10wc : wc.cell? ⟨w.heap.size, 10, none⟩ = some (.int .i64 v.tl) := cell_of_block Zvwc.out 10 (by simp)
    have ev11wc : wc.cell? ⟨w.heap.size, 11, none⟩ = some (.int .i64 v.th) := cell_of_block Zvwc.out 11 (by simp)
    have ev12wc : wc.cell? ⟨w.heap.size, 12, none⟩ = some (.int .i64 v.c) := cell_of_block Zvwc.out 12 (by simp)
    have lvwc := (Array.getElem?_eq_some_iff.1 Zvwc.out).1
    go_upto_region 10 with (fail)
    refine wp_region_box1 [true, true, true, true, true, true, true, true, false, false] 8 9 #[.int .i64 0, .int .i64 0] #[.int .i64 wa, .int .i64 wb] (by kernel_rfl) rfl rfl rfl (by kernel_rfl) rfl (by kernel_rfl) infoPS rfl rfl (by simp [Value.oneCell']) ?_
    apply Exists.intro
    refine ⟨fun S hS hx => ?_, ?_, ?_⟩
    · obtain ⟨x0, hx0⟩ := hx
      haveI : Nonempty (GrewS wc S) := ⟨⟨x0, hx0⟩⟩
      simp only [pickM]
      repeat (go_big_quiet_step ((go_at_call 28; with_reducible exact Calls.gwS hS (D6.out _))))
      exact wpQuiet_nil rfl
    · rfl
    · intro B10 w10 hBw hblk hb10
      have HK := Lib.hid hblk; clear hblk
      have SBw10 := Lib.hid (hb10)
      have Zvw10 := Lib.hid ((SBw10.out.block _ (Array.getElem?_eq_some_iff.1 Zvwc.out).1).trans Zvwc.out)
      have Zcw10 := Lib.hid ((SBw10.out.block _ (Array.getElem?_eq_some_iff.1 Zcwc.out).1).trans Zcwc.out)
      have Zow10 := Lib.hid ((SBw10.out.block _ (Array.getElem?_eq_some_iff.1 Zowc.out).1).trans Zowc.out)
      have Zyw10 := Lib.hid ((SBw10.out.block _ (Array.getElem?_eq_some_iff.1 Zywc.out).1).trans Zywc.out)
      have Zrw10 := Lib.hid ((SBw10.out.block _ (Array.getElem?_eq_some_iff.1 Zrwc.out).1).trans Zrwc.out)
      have Zsw10 := Lib.hid ((SBw10.out.block _ (Array.getElem?_eq_some_iff.1 Zswc.out).1).trans Zswc.out)
      have Zew10 := Lib.hid ((SBw10.out.block _ (Array.getElem?_eq_some_iff.1 Zewc.out).1).trans Zewc.out)
      have Zgw10 := Lib.hid ((SBw10.out.block _ (Array.getElem?_eq_some_iff.1 Zgwc.out).1).trans Zgwc.out)
      have HBw10 := Lib.hid (thru SBw10.out HBwc.out)
      have zsw10 := SBw10.out.size
      clear hb10 ee0wc ee1wc ey0wc ey1wc ey2wc ey3wc ey4wc ey5wc ey6wc ey7wc ev0wc ev1wc ev2wc ev3wc ev4wc ev5wc ev6wc ev7wc ev8wc ev9wc ev10wc ev11wc ev12wc
      go_upto_region 11 with (fail)
      simp only [Act.put, List.setIfInBounds_toArray, List.set_cons_succ, List.set_cons_zero]
      have ev0w10 : w10.cell? ⟨w.heap.size, 0, none⟩ = some (.int .i64 sa) := cell_of_block Zvw10.out 0 (by simp)
      have fv0w10 := frozen_of_block Zvw10.out 0
      have ev1w10 : w10.cell? ⟨w.heap.size, 1, none⟩ = some (.int .i64 sb) := cell_of_block Zvw10.out 1 (by simp)
      have fv1w10 := frozen_of_block Zvw10.out 1
      have ev2w10 : w10.cell? ⟨w.heap.size, 2, none⟩ = some (.int .i64 (v.el + ea)) := cell_of_block Zvw10.out 2 (by simp)
      have fv2w10 := frozen_of_block Zvw10.out 2
      have ev3w10 : w10.cell? ⟨w.heap.size, 3, none⟩ = some (.int .i64 (v.eh + eb)) := cell_of_block Zvw10.out 3 (by simp)
      have fv3w10 := frozen_of_block Zvw10.out 3
      have ev4w10 : w10.cell? ⟨w.heap.size, 4, none⟩ = some (.int .i64 (v.pl + pa)) := cell_of_block Zvw10.out 4 (by simp)
      have fv4w10 := frozen_of_block Zvw10.out 4
      have ev5w10 : w10.cell? ⟨w.heap.size, 5, none⟩ = some (.int .i64 (v.ph + pb)) := cell_of_block Zvw10.out 5 (by simp)
      have fv5w10 := frozen_of_block Zvw10.out 5
      have ev6w10 : w10.cell? ⟨w.heap.size, 6, none⟩ = some (.int .i64 (v.gl + ga)) := cell_of_block Zvw10.out 6 (by simp)
      have fv6w10 := frozen_of_block Zvw10.out 6
      have ev7w10 : w10.cell? ⟨w.heap.size, 7, none⟩ = some (.int .i64 (v.gh + gb)) := cell_of_block Zvw10.out 7 (by simp)
      have fv7w10 := frozen_of_block Zvw10.out 7
      have ev8w10 : w10.cell? ⟨w.heap.size, 8, none⟩ = some (.int .i64 ga) := cell_of_block Zvw10.out 8 (by simp)
      have fv8w10 := frozen_of_block Zvw10.out 8
      have ev9w10 : w10.cell? ⟨w.heap.size, 9, none⟩ = some (.int .i64 gb) := cell_of_block Zvw10.out 9 (by simp)
      have fv9w10 := frozen_of_block Zvw10.out 9
      have ev10w10 : w10.cell? ⟨w.heap.size, 10, none⟩ = some (.int .i64 v.tl) := cell_of_block Zvw10.out 10 (by simp)
      have fv10w10 := frozen_of_block Zvw10.out 10
      have ev11w10 : w10.cell? ⟨w.heap.size, 11, none⟩ = some (.int .i64 v.th) := cell_of_block Zvw10.out 11 (by simp)
      have fv11w10 := frozen_of_block Zvw10.out 11
      have ev12w10 : w10.cell? ⟨w.heap.size, 12, none⟩ = some (.int .i64 v.c) := cell_of_block Zvw10.out 12 (by simp)
      have fv12w10 := frozen_of_block Zvw10.out 12
      have lvw10 := (Array.getElem?_eq_some_iff.1 Zvw10.out).1
      have em0w10 : w10.cell? ⟨B10, 0, none⟩ = some (.int .i64 wa) := cell_of_block HK.out 0 (by simp)
      have em1w10 : w10.cell? ⟨B10, 1, none⟩ = some (.int .i64 wb) := cell_of_block HK.out 1 (by simp)
      have lmw10 := (Array.getElem?_eq_some_iff.1 HK.out).1
      have ec0w10 : w10.cell? ⟨w.heap.size + 1, 0, none⟩ = some (.int .i64 cl) := cell_of_block Zcw10.out 0 (by simp)
      have ec1w10 : w10.cell? ⟨w.heap.size + 1, 1, none⟩ = some (.int .i64 ch) := cell_of_block Zcw10.out 1 (by simp)
      have lcw10 := (Array.getElem?_eq_some_iff.1 Zcw10.out).1
      refine wp_region_gw_tail 13 (by kernel_rfl) (by kernel_rfl) ?_
      simp only [List.take_succ_cons, List.take_zero]
      repeat (go_big_quiet_step (first | (go_at_call 69; with_reducible exact Calls.gw_of (C10.out _)) | (go_at_call 69; with_reducible exact Calls.gw_of (C11.out _))))
      refine wpQuiet_nil ?_
      rintro _ ⟨z7, rfl⟩
      simp only [List.drop_succ_cons, List.drop_zero]
      go_upto_region 12 with (fail)
      obtain ⟨W11, hW11⟩ : ∃ W11, (((gw w10 z7)).setCell ⟨w.heap.size, 10, none⟩ (.int .i64 (v.tl + wa + -ch))).setCell ⟨w.heap.size, 11, none⟩ (.int .i64 (v.th + wb + -cl)) = W11 := ⟨_, rfl⟩
      have hgW11 : w10.grownBy W11 (some (w.heap.size)) := by rw [← hW11]; exact grownBy_trans (grownBy_trans (grownBy_of_below (below_gw w10 z7) _) (grownBy_set _ _ _ _)) (grownBy_set _ _ _ _)
      have ZvW11 := Lib.hid (show W11.heap[w.heap.size]? = some (.cells #[.int .i64 sa, .int .i64 sb, .int .i64 (v.el + ea), .int .i64 (v.eh + eb), .int .i64 (v.pl + pa), .int .i64 (v.ph + pb), .int .i64 (v.gl + ga), .int .i64 (v.gh + gb), .int .i64 ga, .int .i64 gb, .int .i64 (v.tl + wa + -ch), .int .i64 (v.th + wb + -cl), .int .i64 v.c] 53 (0, 0)) by rw [← hW11]; exact block_set 11 _ (block_set 10 _ (((below_gw w10 z7).block _ (Array.getElem?_eq_some_iff.1 Zvw10.out).1).trans Zvw10.out)))
      have ZcW11 := Lib.hid ((hgW11.block _ (Array.getElem?_eq_some_iff.1 Zcw10.out).1 (by simp <;> omega)).trans Zcw10.out)
      have ZoW11 := Lib.hid ((hgW11.block _ (Array.getElem?_eq_some_iff.1 Zow10.out).1 (by simp <;> omega)).trans Zow10.out)
      have ZyW11 := Lib.hid ((hgW11.block _ (Array.getElem?_eq_some_iff.1 Zyw10.out).1 (by simp <;> omega)).trans Zyw10.out)
      have ZrW11 := Lib.hid ((hgW11.block _ (Array.getElem?_eq_some_iff.1 Zrw10.out).1 (by simp <;> omega)).trans Zrw10.out)
      have ZsW11 := Lib.hid ((hgW11.block _ (Array.getElem?_eq_some_iff.1 Zsw10.out).1 (by simp <;> omega)).trans Zsw10.out)
      have ZeW11 := Lib.hid ((hgW11.block _ (Array.getElem?_eq_some_iff.1 Zew10.out).1 (by simp <;> omega)).trans Zew10.out)
      have ZgW11 := Lib.hid ((hgW11.block _ (Array.getElem?_eq_some_iff.1 Zgw10.out).1 (by simp <;> omega)).trans Zgw10.out)
      have ZmW11 := Lib.hid ((hgW11.block _ (Array.getElem?_eq_some_iff.1 HK.out).1 (by simp <;> omega)).trans HK.out)
      have HBW11 := Lib.hid (HBw10.out.grown hgW11 HBw10.out.size (fun g hg => by cases hg; omega))
      have zsW11 := hgW11.size
      have GBW11 := Lib.hid hgW11; clear hgW11
      have HWW11 := Lib.hid hW11; clear hW11
      rw [HWW11.out]
      clear ev0w10 ev1w10 ev2w10 ev3w10 ev4w10 ev5w10 ev6w10 ev7w10 ev8w10 ev9w10 ev10w10 ev11w10 ev12w10 fv0w10 fv1w10 fv2w10 fv3w10 fv4w10 fv5w10 fv6w10 fv7w10 fv8w10 fv9w10 fv10w10 fv11w10 fv12w10 em0w10 em1w10 ec0w10 ec1w10
      have ev0W11 : W11.cell? ⟨w.heap.size, 0, none⟩ = some (.int .i64 sa) := cell_of_block ZvW11.out 0 (by simp)
      have ev1W11 : W11.cell? ⟨w.heap.size, 1, none⟩ = some (.int .i64 sb) := cell_of_block ZvW11.out 1 (by simp)
      have ev2W11 : W11.cell? ⟨w.heap.size, 2, none⟩ = some (.int .i64 (v.el + ea)) := cell_of_block ZvW11.out 2 (by simp)
      have ev3W11 : W11.cell? ⟨w.heap.size, 3, none⟩ = some (.int .i64 (v.eh + eb)) := cell_of_block ZvW11.out 3 (by simp)
      have ev4W11 : W11.cell? ⟨w.heap.size, 4, none⟩ = some (.int .i64 (v.pl + pa)) := cell_of_block ZvW11.out 4 (by simp)
      have ev5W11 : W11.cell? ⟨w.heap.size, 5, none⟩ = some (.int .i64 (v.ph + pb)) := cell_of_block ZvW11.out 5 (by simp)
      have ev6W11 : W11.cell? ⟨w.heap.size, 6, none⟩ = some (.int .i64 (v.gl + ga)) := cell_of_block ZvW11.out 6 (by simp)
      have ev7W11 : W11.cell? ⟨w.heap.size, 7, none⟩ = some (.int .i64 (v.gh + gb)) := cell_of_block ZvW11.out 7 (by simp)
      have ev8W11 : W11.cell? ⟨w.heap.size, 8, none⟩ = some (.int .i64 ga) := cell_of_block ZvW11.out 8 (by simp)
      have ev9W11 : W11.cell? ⟨w.heap.size, 9, none⟩ = some (.int .i64 gb) := cell_of_block ZvW11.out 9 (by simp)
      have ev10W11 : W11.cell? ⟨w.heap.size, 10, none⟩ = some (.int .i64 (v.tl + wa + -ch)) := cell_of_block ZvW11.out 10 (by simp)
      have ev11W11 : W11.cell? ⟨w.heap.size, 11, none⟩ = some (.int .i64 (v.th + wb + -cl)) := cell_of_block ZvW11.out 11 (by simp)
      have ev12W11 : W11.cell? ⟨w.heap.size, 12, none⟩ = some (.int .i64 v.c) := cell_of_block ZvW11.out 12 (by simp)
      have lvW11 := (Array.getElem?_eq_some_iff.1 ZvW11.out).1
      have eo0W11 : W11.cell? ⟨w.heap.size + 1 + 1, 0, none⟩ = some (.int .i64 0) := cell_of_block ZoW11.out 0 (by simp)
      have fo0W11 := frozen_of_block ZoW11.out 0
      have eo1W11 : W11.cell? ⟨w.heap.size + 1 + 1, 1, none⟩ = some (.int .i64 0) := cell_of_block ZoW11.out 1 (by simp)
      have fo1W11 := frozen_of_block ZoW11.out 1
      have eo2W11 : W11.cell? ⟨w.heap.size + 1 + 1, 2, none⟩ = some (.int .i64 0) := cell_of_block ZoW11.out 2 (by simp)
      have fo2W11 := frozen_of_block ZoW11.out 2
      have eo3W11 : W11.cell? ⟨w.heap.size + 1 + 1, 3, none⟩ = some (.int .i64 0) := cell_of_block ZoW11.out 3 (by simp)
      have fo3W11 := frozen_of_block ZoW11.out 3
      have eo4W11 : W11.cell? ⟨w.heap.size + 1 + 1, 4, none⟩ = some (.int .i64 0) := cell_of_block ZoW11.out 4 (by simp)
      have fo4W11 := frozen_of_block ZoW11.out 4
      have eo5W11 : W11.cell? ⟨w.heap.size + 1 + 1, 5, none⟩ = some (.int .i64 0) := cell_of_block ZoW11.out 5 (by simp)
      have fo5W11 := frozen_of_block ZoW11.out 5
      have eo6W11 : W11.cell? ⟨w.heap.size + 1 + 1, 6, none⟩ = some (.int .i64 0) := cell_of_block ZoW11.out 6 (by simp)
      have fo6W11 := frozen_of_block ZoW11.out 6
      have eo7W11 : W11.cell? ⟨w.heap.size + 1 + 1, 7, none⟩ = some (.int .i64 0) := cell_of_block ZoW11.out 7 (by simp)
      have fo7W11 := frozen_of_block ZoW11.out 7
      have eo8W11 : W11.cell? ⟨w.heap.size + 1 + 1, 8, none⟩ = some (.int .i64 0) := cell_of_block ZoW11.out 8 (by simp)
      have fo8W11 := frozen_of_block ZoW11.out 8
      have eo9W11 : W11.cell? ⟨w.heap.size + 1 + 1, 9, none⟩ = some (.int .i64 0) := cell_of_block ZoW11.out 9 (by simp)
      have fo9W11 := frozen_of_block ZoW11.out 9
      have eo10W11 : W11.cell? ⟨w.heap.size + 1 + 1, 10, none⟩ = some (.int .i64 0) := cell_of_block ZoW11.out 10 (by simp)
      have fo10W11 := frozen_of_block ZoW11.out 10
      have eo11W11 : W11.cell? ⟨w.heap.size + 1 + 1, 11, none⟩ = some (.int .i64 0) := cell_of_block ZoW11.out 11 (by simp)
      have fo11W11 := frozen_of_block ZoW11.out 11
      have eo12W11 : W11.cell? ⟨w.heap.size + 1 + 1, 12, none⟩ = some (.int .i64 0) := cell_of_block ZoW11.out 12 (by simp)
      have fo12W11 := frozen_of_block ZoW11.out 12
      have loW11 := (Array.getElem?_eq_some_iff.1 ZoW11.out).1
      go_wp2_with fail
      refine bodyPost_ret (v := .agg #[.int .i64 sa, .int .i64 sb, .int .i64 (v.el + ea), .int .i64 (v.eh + eb), .int .i64 (v.pl + pa), .int .i64 (v.ph + pb), .int .i64 (v.gl + ga), .int .i64 (v.gh + gb), .int .i64 ga, .int .i64 gb, .int .i64 (v.tl + wa + -ch), .int .i64 (v.th + wb + -cl), .int .i64 v.c]) (by simp [results, Try.results51, go_sem, *]) rfl ⟨rfl, ?_⟩
      exact setAll_below HBW11.out HBW11.out.size (by omega) [.int .i64 sa, .int .i64 sb, .int .i64 (v.el + ea), .int .i64 (v.eh + eb), .int .i64 (v.pl + pa), .int .i64 (v.ph + pb), .int .i64 (v.gl + ga), .int .i64 (v.gh + gb), .int .i64 ga, .int .i64 gb, .int .i64 (v.tl + wa + -ch), .int .i64 (v.th + wb + -cl), .int .i64 v.c] 0
end Go.Proofs.Ytfefmgadfklgmaa
