/- Contracts of corners and of its iterator. No conditions beyond each theorem's own. -/
import Derived.Test.YtohcopdfdmjhnaaSi
import Derived.Test.YtohcopdfdmjhnaaAm
import Derived.Test.YtohcopdfdmjhnaaAo
import Derived.Laws.EntriesVeiled
import Derived.WalkMore
set_option linter.unusedVariables false
set_option linter.unusedSimpArgs false
set_option linter.unusedSectionVars false
set_option linter.constructorNameAsVariable false
namespace Go.Proofs.Ytohcopdfdmjhnaa.L1
open Go.RowKit
open Go.Shelf
open Go.Proofs.Ytohcopdfdmjhnaa

attribute [local go_sem] gw_cell gw_frozen gw_size

/-- but for two blocks all that was is as it was -/
structure Keep2 (x y : Nat) (w w' : World) : Prop where
  os : w'.os = w.os
  tape : w'.tape = w.tape
  output : w'.output = w.output
  size : w.heap.size ≤ w'.heap.size
  block : ∀ k, k < w.heap.size → k ≠ x → k ≠ y → w'.heap[k]? = w.heap[k]?
theorem Keep2.refl (x y : Nat) (w : World) : Keep2 x y w w := ⟨rfl, rfl, rfl, Nat.le_refl _, fun _ _ _ _ => rfl⟩
theorem Keep2.trans {x y : Nat} {a b c : World} (h : Keep2 x y a b) (k : Keep2 x y b c) : Keep2 x y a c :=
  ⟨k.os.trans h.os, k.tape.trans h.tape, k.output.trans h.output, Nat.le_trans h.size k.size, fun j hj h1 h2 => (k.block j (Nat.lt_of_lt_of_le hj h.size) h1 h2).trans (h.block j hj h1 h2)⟩
theorem Keep2.of {x y : Nat} {w w' : World} (h : Below w.heap.size w w') : Keep2 x y w w' := ⟨h.os, h.tape, h.output, h.size, fun k hk _ _ => h.block k hk⟩
theorem Keep2.grown {x y : Nat} {w w' : World} {r : Nat} (h : w.grownBy w' (some r)) (hr : r = x ∨ r = y ∨ w.heap.size ≤ r) : Keep2 x y w w' :=
  ⟨h.os, h.tape, h.output, h.size, fun k hk h1 h2 => h.block k hk (by simp; omega)⟩
theorem Keep2.cell {x y : Nat} {w w' : World} (h : Keep2 x y w w') {p : Addr} (hp : p.block < w.heap.size) (h1 : p.block ≠ x) (h2 : p.block ≠ y) : w'.cell? p = w.cell? p :=
  World.cell?_of_block (w := w) (h.block p.block hp h1 h2)
theorem Keep2.low {x y B : Nat} {w0 w w' : World} (h : Keep2 x y w w') (hb : Below B w0 w) (hB : B ≤ w.heap.size) (hx : B ≤ x) (hy : B ≤ y) : Below B w0 w' :=
  hb.trans ⟨h.os, h.tape, h.output, h.size, fun k hk => h.block k (by omega) (by omega) (by omega)⟩

/-- the blocks that the iterator reads -/
def cornHeld (bf bp bs bm bt : Nat) (slo shi tlo thi : Int) : List (Nat × Obj) :=
  [(bp, .cells #[.pointer (some ⟨bt, 0, none⟩)] 76 (0, 0)), (bs, .cells #[.int .i64 slo, .int .i64 shi] 27 (0, 0)), (bm, .cells #[.int .i64 tlo, .int .i64 thi] 27 (0, 0)), (bf, .cells #[.func (.func 92) #[] #[]] 111 (0, 0))]

set_option maxRecDepth 100000 in
set_option maxHeartbeats 1000000 in
theorem corners_any (bt : Nat) (slo shi tlo thi : Int) (w : World) :
    Calls Try.prog 81 #[.pointer (some ⟨bt, 0, none⟩), .agg #[.int .i64 slo, .int .i64 shi], .agg #[.int .i64 tlo, .int .i64 thi]] w fun e w' =>
      e = .returned (.func (.func 96) #[] #[.pointer (some ⟨w.heap.size + 1 + 1 + 1, 0, none⟩), .pointer (some ⟨w.heap.size, 0, none⟩), .pointer (some ⟨w.heap.size + 1, 0, none⟩), .pointer (some ⟨w.heap.size + 1 + 1, 0, none⟩)]) ∧
        Held (cornHeld (w.heap.size + 1 + 1 + 1) w.heap.size (w.heap.size + 1) (w.heap.size + 1 + 1) bt slo shi tlo thi) w' ∧ Below w.heap.size w w' ∧ w'.heap.size = w.heap.size + 4 := by
  have hmf : ∀ (fn : Fn) (first cap : Array Value) (w : World), (Instr.makeFunc fn first cap).run Try.prog w = .ok (.func fn first cap) w := fun _ _ _ _ => rfl
  obtain ⟨W1, hW1⟩ : ∃ W1, ((w.alloc (.cells #[.pointer (some ⟨bt, 0, none⟩)] 76)).alloc (.cells #[.int .i64 slo, .int .i64 shi] 27)).alloc (.cells #[.int .i64 tlo, .int .i64 thi] 27) = W1 := ⟨_, rfl⟩
  have hB : Below w.heap.size w W1 := by rw [← hW1]; exact ((below_alloc _ _).alloc (by simp) _).alloc (by simp <;> omega) _
  have z0 : W1.heap[w.heap.size]? = some (.cells #[.pointer (some ⟨bt, 0, none⟩)] 76 (0, 0)) := by rw [← hW1]; exact alloc_keep (alloc_keep (alloc_at rfl))
  have z1 : W1.heap[w.heap.size + 1]? = some (.cells #[.int .i64 slo, .int .i64 shi] 27 (0, 0)) := by rw [← hW1]; exact alloc_keep (alloc_at (by simp))
  have z2 : W1.heap[w.heap.size + 1 + 1]? = some (.cells #[.int .i64 tlo, .int .i64 thi] 27 (0, 0)) := by rw [← hW1]; exact alloc_at (by simp <;> omega)
  have hs : W1.heap.size = w.heap.size + 1 + 1 + 1 := by rw [← hW1]; simp
  have HZ := Lib.hid (And.intro hB (And.intro z0 (And.intro z1 (And.intro z2 hs)))); clear hB z0 z1 z2 hs
  have HW := Lib.hid hW1; clear hW1
  go_enter Try.func81, Try.ntmps81
  go_upto_region 1 with (fail)
  rw [HW.out]
  go_wp2_with fail
  go_ret
  obtain ⟨hB, z0, z1, z2, hs⟩ := HZ.out
  rw [← hs]
  have zf : (W1.alloc (.cells #[.func (.func 92) #[] #[]] 111)).heap[W1.heap.size]? = some (.cells #[.func (.func 92) #[] #[]] 111 (0, 0)) := alloc_at rfl
  refine ⟨rfl, ?_, ?_, ?_⟩
  · intro p hp
    simp only [cornHeld, List.mem_cons, List.not_mem_nil, or_false] at hp
    rcases hp with rfl | rfl | rfl | rfl
    · exact alloc_keep z0
    · exact alloc_keep z1
    · exact alloc_keep z2
    · exact zf
  · exact hB.alloc hB.size _
  · simp; omega

section
variable {bf bp bs bm bt : Nat} {slo shi tlo thi : Int} {W : World}
theorem cornHeld_t (h : Held (cornHeld bf bp bs bm bt slo shi tlo thi) W) :
    W.cell? ⟨bp, 0, none⟩ = some (.pointer (some ⟨bt, 0, none⟩)) ∧ (W.cell? ⟨bs, 0, none⟩ = some (.int .i64 slo) ∧ W.cell? ⟨bs, 1, none⟩ = some (.int .i64 shi)) ∧ (W.cell? ⟨bm, 0, none⟩ = some (.int .i64 tlo) ∧ W.cell? ⟨bm, 1, none⟩ = some (.int .i64 thi)) ∧ W.cell? ⟨bf, 0, none⟩ = some (.func (.func 92) #[] #[]) := by
  have H := fun p hp => h p hp
  have h1 := H (bp, .cells #[.pointer (some ⟨bt, 0, none⟩)] 76 (0, 0)) (by simp [cornHeld])
  have h2 := H (bs, .cells #[.int .i64 slo, .int .i64 shi] 27 (0, 0)) (by simp [cornHeld])
  have h3 := H (bm, .cells #[.int .i64 tlo, .int .i64 thi] 27 (0, 0)) (by simp [cornHeld])
  have h4 := H (bf, .cells #[.func (.func 92) #[] #[]] 111 (0, 0)) (by simp [cornHeld])
  exact ⟨cell_of_block h1 0 (by simp), ⟨cell_of_block h2 0 (by simp), cell_of_block h2 1 (by simp)⟩, ⟨cell_of_block h3 0 (by simp), cell_of_block h3 1 (by simp)⟩, cell_of_block h4 0 (by simp)⟩
end

set_option maxRecDepth 100000 in
set_option maxHeartbeats 4000000 in
theorem corners2_in (n l : Nat) (t : Tab) (bf bp bs bm bt : Nat) (slo shi tlo thi : Int) (W : World) (bX bY : Nat) (hI : t.In W) (hn1 : 2 ≤ t.nT) (hn2 : t.nT ≤ 32) (hn3 : 2 ≤ t.nS) (hn4 : t.nS ≤ 32)
    (hH : Held (cornHeld bf bp bs bm bt slo shi tlo thi) W) (z0 : W.cell? ⟨bt, 0, none⟩ = some (.slice t.aT t.nT t.cT)) (z1 : W.cell? ⟨bt, 1, none⟩ = some (.slice t.aS t.nS t.cS)) (hX : bX < W.heap.size) (hY : bY < W.heap.size)
    (J : Nat → World → Prop) (hJ : ∀ p V V', J p V → Below V.heap.size V V' → J p V')
    (hR : ∀ i k V, i < (marksP t.T t.nT tlo thi).length → k < (marksP t.S t.nS slo shi).length → J (i * (marksP t.S t.nS slo shi).length + k) V →
      YieldAt Fence.wide (n - 1) Try.prog l #[.int .i64 ((marksP t.T t.nT tlo thi).getD i 0), .int .i64 ((marksP t.S t.nS slo shi).getD k 0)] V fun e V' => e = .returned (.bool true) ∧ J (i * (marksP t.S t.nS slo shi).length + k + 1) V' ∧ Keep2 bX bY V V')
    (hJ0 : J 0 W) :
    CallsIn Fence.wide n Try.prog 96 #[.func (.yield l) #[] #[], .pointer (some ⟨bf, 0, none⟩), .pointer (some ⟨bp, 0, none⟩), .pointer (some ⟨bs, 0, none⟩), .pointer (some ⟨bm, 0, none⟩)] W
      fun e W' => (∃ v, e = .returned v) ∧ J ((marksP t.T t.nT tlo thi).length * (marksP t.S t.nS slo shi).length) W' := by
  obtain ⟨x0, ⟨x1, x2⟩, ⟨x3, x4⟩, x5⟩ := cornHeld_t hH
  rcases hI.iT with h | ⟨bT, oT, eT, lT, cT⟩
  · omega
  rcases hI.iS with h | ⟨bS, oS, eS, lS, cS⟩
  · omega
  rw [eT] at z0
  rw [eS] at z1
  have l0 := World.block_lt_of_cell? W _ x0
  have l1 := World.block_lt_of_cell? W _ x1
  have l3 := World.block_lt_of_cell? W _ x3
  have l5 := World.block_lt_of_cell? W _ x5
  have lt := World.block_lt_of_cell? W _ z0
  dsimp only at l0 l1 l3 l5 lt
  have MS := Lib.hid (fun z => marks_any bS oS t.nS t.cS t.S slo shi (gw W z) hn4 (by rw [gw_size]; omega) (fun i hi => below_cell (below_gw W z) (cS i hi)))
  have MT := Lib.hid (fun (V : World) (hb : Below W.heap.size W V) z => marks_any bT oT t.nT t.cT t.T tlo thi (gw V z) hn2 (by rw [gw_size]; have := hb.size; omega) (fun i hi => below_cell (hb.gw z) (cT i hi)))
  obtain ⟨mt, hmt⟩ : ∃ mt, marksP t.T t.nT tlo thi = mt := ⟨_, rfl⟩
  obtain ⟨ms, hms⟩ : ∃ ms, marksP t.S t.nS slo shi = ms := ⟨_, rfl⟩
  have ml1 := marksP_len t.T t.nT tlo thi
  have ml2 := marksP_len t.S t.nS slo shi
  rw [hmt] at MT hR ml1 ⊢
  rw [hms] at MS hR ml2 ⊢
  have HJ := Lib.hid hJ; have HR := Lib.hid hR; have HJ0 := Lib.hid hJ0
  clear hI hH cT cS eT eS hmt hms hJ hR hJ0
  refine callsIn_of_wp Try.func96 rfl trivial ?_ rfl
  simp only [Try.ntmps96, List.size_toArray, List.length_cons, List.length_nil, Nat.reduceAdd, Nat.reduceSub, Array.replicate_succ, Array.replicate_zero, List.push_toArray, List.append_toArray, List.nil_append, List.cons_append]
  refine wpIn_wide.2 ?_
  go_step3
  apply wp_seq
  refine wp_region_gw_tail 6 (by kernel_rfl) (by kernel_rfl) ?_
  simp only [List.take_succ_cons, List.take_zero]
  repeat (go_big_quiet_step (fail))
  refine wpQuiet_nil ?_
  rintro _ ⟨y0, rfl⟩
  simp only [List.drop_succ_cons, List.drop_zero]
  go_wp2_with fail
  refine (MS.out y0).mono ?_
  rintro e w1 ⟨gs, cs, rfl, hgs, hgs2, hcs, hb1⟩
  have hb1' := thru hb1 (below_gw W y0)
  replace x0 := below_cell hb1' x0
  replace x1 := below_cell hb1' x1
  replace x2 := below_cell hb1' x2
  replace x3 := below_cell hb1' x3
  replace x4 := below_cell hb1' x4
  replace x5 := below_cell hb1' x5
  replace z0 := below_cell hb1' z0
  replace z1 := below_cell hb1' z1
  have sz1 := hb1'.size
  have HB1 := Lib.hid hb1'; have HCS := Lib.hid hcs; clear hb1 hb1' hcs MS
  rw [gw_size] at hgs
  replace l0 := Nat.lt_of_lt_of_le l0 sz1
  replace l1 := Nat.lt_of_lt_of_le l1 sz1
  replace l3 := Nat.lt_of_lt_of_le l3 sz1
  replace l5 := Nat.lt_of_lt_of_le l5 sz1
  replace lt := Nat.lt_of_lt_of_le lt sz1
  go_wp2_with fail
  go_step3
  go_wp2_with fail
  refine wp_region_plan (fun w' => ∃ x, w' = gw w1 x) (.step [0, 1, 5, 8] 2 (.step [3, 4] 6 (.step [] 7 (.last [])))) (by kernel_rfl) (by kernel_rfl) ?_
  rintro _ ⟨y1, rfl⟩
  refine ⟨⟨_, rfl⟩, ?_⟩
  refine wpPlan_step ?_
  simp only [pickL, List.getElem?_cons_zero, List.getElem?_cons_succ]
  repeat (go_big_quiet_step (fail))
  refine wpQuiet_nil ?_
  go_wp2_with fail
  refine contQ_now ⟨⟨_, rfl⟩, ?_⟩
  refine wpPlan_step ?_
  simp only [pickL, List.getElem?_cons_zero, List.getElem?_cons_succ]
  repeat (go_big_quiet_step (fail))
  refine wpQuiet_nil ?_
  go_wp2_with fail
  rename_i KK hKK
  refine (MT.out w1 HB1.out y1).mono ?_
  rintro e w2 ⟨gt, ct, rfl, hgt, hgt2, hct, hb2⟩
  have hb2' := thru hb2 (below_gw w1 y1)
  have HCS2 := Lib.hid (fun i hi => below_cell hb2' (HCS.out i hi))
  have sz2 := hb2'.size
  have HB2 := Lib.hid (thru hb2' HB1.out); have HCT := Lib.hid hct
  rw [gw_size] at hgt
  obtain ⟨y2, hy2⟩ := gw_of_below hb2'
  subst hy2
  refine hKK _ _ (contQ_nil ⟨⟨_, rfl⟩, ?_⟩)
  clear hKK KK hb2 hb2' hct MT x0 x1 x2 x3 x4 x5 z0 z1
  refine wpPlan_step ?_
  simp only [pickL, List.getElem?_cons_zero, List.getElem?_cons_succ]
  refine wpQuiet_nil ?_
  go_wp2_with fail
  refine contQ_now ⟨⟨_, rfl⟩, ?_⟩
  refine wpPlan_last ?_
  simp only [pickL, List.getElem?_cons_zero, List.getElem?_cons_succ]
  refine wpQuiet_nil ?_
  refine contN_nil ?_
  go_wp2_with fail
  generalize gw w1 y2 = w2 at *
  have hJ2 := HJ.out 0 W w2 HJ0.out HB2.out
  rw [← Nat.zero_mul ms.length] at hJ2
  refine (wpIn_wide (n := n)).1 ?_
  have gX : gt ≠ bX := by have := sz1; omega
  have gY : gt ≠ bY := by have := sz1; omega
  have sX : gs ≠ bX := by omega
  have sY : gs ≠ bY := by omega
  have ls2 : gs < w2.heap.size := by omega
  clear hgs hgs2 hgt l0 l1 l3 l5 lt lT lS sz1 sz2 hX hY
  gi_loopw [26] (fun s wr => ∃ i : Nat, i ≤ mt.length ∧ s = .int .i64 i ∧ J (i * ms.length) wr ∧ Hid (Keep2 bX bY w2 wr)) (fun s _ => mt.length - (intOf s).toNat)
  case atStart => exact ⟨0, Nat.zero_le _, rfl, hJ2, Lib.hid (Keep2.refl _ _ _)⟩
  case round =>
    obtain ⟨i, hi, rfl, hJi, HK⟩ := hrel
    clear hJ2
    by_cases hlt : i < mt.length
    · have ci : wr.cell? ⟨gt, i, none⟩ = some (.int .i64 (mt.getD i 0)) := (HK.out.cell (p := ⟨gt, i, none⟩) hgt2 gX gY).trans (HCT.out i hlt)
      obtain ⟨x, hx⟩ : ∃ x, mt.getD i 0 = x := ⟨_, rfl⟩
      rw [hx] at ci
      have HX := Lib.hid hx; clear hx
      have lg := World.block_lt_of_cell? wr _ ci
      dsimp only at lg
      have HJI := Lib.hid hJi; clear hJi
      gi_wp2_with fail
      rename_i K1 h1
      have HK1 := Lib.hid h1; clear h1
      gi_loopw [32] (fun s wr => ∃ k : Nat, k ≤ ms.length ∧ s = .int .i64 k ∧ J (i * ms.length + k) wr ∧ Hid (Keep2 bX bY w2 wr)) (fun s _ => ms.length - (intOf s).toNat)
      case atStart => exact ⟨0, Nat.zero_le _, rfl, HJI.out, HK⟩
      case round =>
        obtain ⟨k, hk, rfl, hJk, HKk⟩ := hrel
        clear ci lg
        by_cases hl2 : k < ms.length
        · have ck : wr.cell? ⟨gs, k, none⟩ = some (.int .i64 (ms.getD k 0)) := (HKk.out.cell (p := ⟨gs, k, none⟩) ls2 sX sY).trans (HCS2.out k hl2)
          obtain ⟨fn, tmps, assign, body, hy, hR⟩ := HR.out i k wr hlt hl2 hJk
          obtain ⟨y, hyy⟩ : ∃ y, ms.getD k 0 = y := ⟨_, rfl⟩
          rw [hyy] at ck hy
          rw [HX.out] at hy
          clear hyy hJk
          have lg := World.block_lt_of_cell? wr _ ck
          dsimp only at lg
          have HRR := Lib.hid hR; clear hR
          gi_wp2_with fail
          refine ⟨(fun h => (by cases h)), HRR.out.mono ?_⟩
          rintro e W3 ⟨rfl, hJ3, hK3⟩
          have HJ3 := Lib.hid hJ3; have HK3 := Lib.hid (HKk.out.trans hK3); clear hJ3 hK3 hy HRR ck lg
          gi_wp2_with fail
          go_roundw
          case rel => exact ⟨k + 1, by omega, by go_num, HJ3.out, HK3⟩
          case measure => simp [intOf]; omega
        · obtain rfl : k = ms.length := by omega
          rw [← Nat.succ_mul] at hJk
          have HJK := Lib.hid hJk; clear hJk
          gi_wp2_with fail
          refine HK1.out _ _ ?_
          clear HK1
          gi_wp2_with fail
          go_roundw
          case rel => exact ⟨i + 1, by omega, by go_num, HJK.out, HKk⟩
          case measure => simp [intOf]; omega
    · obtain rfl : i = mt.length := by omega
      have HJI := Lib.hid hJi; clear hJi
      gi_wp2_with fail
      rw [Exit.noGoto_normal]
      go_end0
      exact ⟨⟨_, rfl⟩, HJI.out⟩
end Go.Proofs.Ytohcopdfdmjhnaa.L1
