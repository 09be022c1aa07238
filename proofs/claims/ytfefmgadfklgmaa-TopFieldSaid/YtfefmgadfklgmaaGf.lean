/- Contract of still.Run beyond its first errors. Contracts of still.Run: with an error, and without one. Contracts of sample, Cycle. Contract of alive: it returns true. Contracts of Wear and its function, inner. No conditions beyond each theorem's own. -/
import Derived.Test.YtfefmgadfklgmaaGe
import Derived.Test.YtfefmgadfklgmaaGz
set_option linter.unusedVariables false
set_option linter.unusedSimpArgs false
set_option linter.unusedSectionVars false
set_option linter.constructorNameAsVariable false
namespace Go.Proofs.Ytfefmgadfklgmaa.L4
open Go.RowKit Go.Shelf

attribute [local go_sem] Oper.semAt_some

theorem infoD : (Try.prog.info? 63).map (fun i => (i.zero, i.size, i.bytes)) = some (some (.agg #[.int .i64 0, .int .i64 0, .int .i64 0]), 3, 24) := by kernel_rfl

theorem news3 (w : World) (x y z : Value) (t : TypeId) : ∀ (i : Nat) (u : Value), [x, y, z][i]? = some u → (w.alloc (.cells #[x, y, z] t)).cell? ((⟨w.heap.size, 0, none⟩ : Addr).add i) = some u := by
  intro i u h
  have hb := World.alloc_heap_new w (.cells #[x, y, z] t)
  match i, h with
  | 0, h => exact (cell_of_block hb 0 (by simp)).trans (by simpa using h)
  | 1, h => exact (cell_of_block hb 1 (by simp)).trans (by simpa using h)
  | 2, h => exact (cell_of_block hb 2 (by simp)).trans (by simpa using h)
  | i + 3, h => simp at h

/-- how a run ends -/
def RunEnds (c : Crv) (p : Pot3) (M : Nat → Int) (k m : Nat) (w : World) (e : Ending) (w' : World) : Prop :=
  Below w.heap.size w w' ∧
  ((m = k ∧ ∃ v, e = .returned (.tuple #[v, .agg #[.int .i64 (c.potAt p M k).v, .int .i64 (c.potAt p M k).lo, .int .i64 (c.potAt p M k).hi], .int .i64 0]) ∧
      w'.ownsRow w.heap.size 63 3 v k (c.outs p M k)) ∨
   (m < k ∧ e = .returned (.tuple #[.slice none 0 0, .agg #[.int .i64 0, .int .i64 0, .int .i64 0], .int .i64 (c.errAt p M m)])))

set_option maxRecDepth 100000 in
set_option maxHeartbeats 4000000 in
theorem runMain_in (n : Nat) (aM : Option Addr) (b off bv offv cL cV bm offm k cM : Nat) (c : Crv) (p : Pot3) (M : Nat → Int) (m : Nat) (hn : 3 ≤ n) (hcn : c.n ≤ 1000000000000) (hk : k ≤ 64) (hmk : m ≤ k) (g : Good c.n c.L c.A c.B)
    (hok : ∀ j, j ≤ m → (c.potAt p M j).ok) (hgo : ∀ j, j < m → c.errAt p M j = 0) (hst : m < k → c.errAt p M m ≠ 0) (haM : 0 < k → aM = some ⟨bm, offm, none⟩)
    (w : World) (hP : Pts w b off bv offv c.n c.L c.A c.B) (hbm : bm < w.heap.size) (hm : ∀ i, i < k → w.cell? ⟨bm, offm + i, none⟩ = some (.int .i64 (M i)))
    (hE : earlyE c.n c.n c.L c.A c.B p.v p.lo p.hi k = 0) :
    CallsIn Fence.wide n Try.prog 12 #[.agg #[.slice (some ⟨b, off, none⟩) c.n cL, .slice (some ⟨bv, offv, none⟩) c.n cV], .agg #[.int .i64 p.v, .int .i64 p.lo, .int .i64 p.hi], .slice aM k cM] w (RunEnds c p M k m w) := by
  have hmf : ∀ (fn : Fn) (first cap : Array Value) (w : World), (Instr.makeFunc fn first cap).run Try.prog w = .ok (.func fn first cap) w := fun _ _ _ _ => rfl
  have HP := Lib.hid hP; clear hP
  have HM := Lib.hid hm; clear hm
  have HE := Lib.hid hE; clear hE
  have HaM := Lib.hid haM; clear haM
  have HOK := Lib.hid hok; clear hok
  have HGO := Lib.hid hgo; clear hgo
  have HST := Lib.hid hst; clear hst
  have G := Lib.hid g; clear g
  refine callsIn_of_wp_marks Try.func12 rfl trivial ?_ rfl
  simp only [Try.ntmps12, List.size_toArray, List.length_cons, List.length_nil, Nat.reduceAdd, Nat.reduceSub, Array.replicate_succ, Array.replicate_zero, List.push_toArray, List.append_toArray, List.nil_append, List.cons_append]
  gi_wp2_with fail
  refine ⟨trivial, (fun h => (by cases h)), ?_⟩
  have hB := (((((Below.refl _ w).alloc (Nat.le_refl _) (.cells #[.slice (some ⟨b, off, none⟩) c.n cL, .slice (some ⟨bv, offv, none⟩) c.n cV] 34)).alloc (by simp) (.cells #[.int .i64 p.v, .int .i64 p.lo, .int .i64 p.hi] 58)).alloc (by simp; omega) (.cells #[.slice none 0 0] 59)).alloc (by simp; omega) (.cells #[.int .i64 0, .int .i64 0, .int .i64 0] 58)).alloc (by simp; omega) (.cells #[.int .i64 0] 44)
  have hP1 := HP.out.below hB
  refine (callsIn_wide.2 (early_any _ _ aM c.n c.n cL cV k cM c.L c.A c.B p.v p.lo p.hi _ hcn hcn (by omega) (.inr ⟨b, off, rfl, hP1.lb, hP1.ls⟩) (.inr ⟨bv, offv, rfl, hP1.vb, hP1.vs⟩))).mono ?_
  clear hP1
  rw [HE.out]
  rintro e w1 ⟨rfl, hb1⟩
  obtain ⟨z0, z1, z2, z3, z4, z5⟩ := five_blocks w (.cells #[.slice (some ⟨b, off, none⟩) c.n cL, .slice (some ⟨bv, offv, none⟩) c.n cV] 34) (.cells #[.int .i64 p.v, .int .i64 p.lo, .int .i64 p.hi] 58) (.cells #[.slice none 0 0] 59) (.cells #[.int .i64 0, .int .i64 0, .int .i64 0] 58) (.cells #[.int .i64 0] 44)
  have hs1 : w.heap.size + 5 ≤ w1.heap.size := by have := hb1.size; rw [z0] at this; exact this
  have Y1 := Lib.hid ((hb1.block w.heap.size (by rw [z0]; omega)).trans z1)
  have y2 := (hb1.block (w.heap.size + 1) (by rw [z0]; omega)).trans z2
  have Y3 := Lib.hid ((hb1.block (w.heap.size + 2) (by rw [z0]; omega)).trans z3)
  have Y4 := Lib.hid ((hb1.block (w.heap.size + 3) (by rw [z0]; omega)).trans z4)
  have Y5 := Lib.hid ((hb1.block (w.heap.size + 4) (by rw [z0]; omega)).trans z5)
  have b0 := cell_of_block y2 0 (by simp)
  have b1 := cell_of_block y2 1 (by simp)
  have b2 := cell_of_block y2 2 (by simp)
  simp at b0 b1 b2
  have HB := Lib.hid (hB.trans (hb1.mono hB.size)); clear hB hb1 z0 z1 z2 z3 z4 z5 y2
  gi_wp2_with fail
  refine ⟨trivial, (fun h => (by cases h)), ?_⟩
  refine (callsIn_wide.2 (all_any _ aM k cM _)).mono ?_
  rintro e w2 ⟨rfl, rfl⟩
  gi_wp2_with fail
  -- the world in which the loop begins
  have hB1 := HB.out
  obtain ⟨W0, hW0⟩ : ∃ W0, ((w1.alloc (.cells #[.int .i64 p.v, .int .i64 p.lo, .int .i64 p.hi, .pointer (some ⟨w.heap.size, 0, none⟩)] 101)).alloc (.cells #[.pointer (some ⟨w1.heap.size, 0, none⟩)] 123)).alloc (.cells #[.slice aM k cM] 29) = W0 := ⟨_, rfl⟩
  have hB0 : Below w1.heap.size w1 W0 := by rw [← hW0]; exact (((Below.refl _ w1).alloc (Nat.le_refl _) _).alloc (by simp) _).alloc (by simp; omega) _
  have hsz : W0.heap.size = w1.heap.size + 3 := by rw [← hW0]; simp
  have hS0 : StillBox W0 w1.heap.size p.v p.lo p.hi w.heap.size := by
    rw [← hW0]; exact (Below.heap_alloc _ _ _ (by simp; omega)).trans ((Below.heap_alloc _ _ _ (by simp)).trans (World.alloc_heap_new w1 _))
  have hp0 : W0.heap[w1.heap.size + 1]? = some (.cells #[.pointer (some ⟨w1.heap.size, 0, none⟩)] 123 (0, 0)) := by
    rw [← hW0]; refine (Below.heap_alloc _ _ _ (by simp)).trans ?_
    have := World.alloc_heap_new (w1.alloc (.cells #[.int .i64 p.v, .int .i64 p.lo, .int .i64 p.hi, .pointer (some ⟨w.heap.size, 0, none⟩)] 101)) (.cells #[.pointer (some ⟨w1.heap.size, 0, none⟩)] 123)
    rwa [World.size_alloc] at this
  have ha0 : W0.heap[w1.heap.size + 2]? = some (.cells #[.slice aM k cM] 29 (0, 0)) := by
    rw [← hW0]
    have := World.alloc_heap_new ((w1.alloc (.cells #[.int .i64 p.v, .int .i64 p.lo, .int .i64 p.hi, .pointer (some ⟨w.heap.size, 0, none⟩)] 101)).alloc (.cells #[.pointer (some ⟨w1.heap.size, 0, none⟩)] 123)) (.cells #[.slice aM k cM] 29)
    rwa [World.size_alloc, World.size_alloc] at this
  rw [hW0]
  clear hW0
  have hlow : Below w.heap.size w W0 := hB1.trans (hB0.mono hB1.size)
  have X1 := (hB0.block w.heap.size (by omega)).trans Y1.out
  have X3 := (hB0.block (w.heap.size + 2) (by omega)).trans Y3.out
  have X4 := (hB0.block (w.heap.size + 3) (by omega)).trans Y4.out
  have X5 := (hB0.block (w.heap.size + 4) (by omega)).trans Y5.out
  clear b0 b1 b2 hB1 hB0
  refine wpIn_rangeFunc_J (gf := 54) (lb := #[.pointer (some ⟨w1.heap.size + 1 + 1, 0, none⟩), .pointer (some ⟨w1.heap.size + 1, 0, none⟩)]) rfl (enters_of Try.func54 (by kernel_rfl) rfl)
    (fun rec e W => AllEnds c p M k m w1.heap.size w.heap.size (Between c p M w #[.slice (some ⟨b, off, none⟩) c.n cL, .slice (some ⟨bv, offv, none⟩) c.n cV] #[.slice aM k cM] #[.pointer (some ⟨w1.heap.size, 0, none⟩)] w1.heap.size W0.heap.size rec) e W) ?call ?ret ?pan ?out
  case out => rintro rec W (⟨_, ⟨_, h⟩, _⟩ | ⟨_, h, _⟩) <;> cases h
  case call =>
    intro rec r1 r2 r3 r4 r5 r6
    obtain ⟨W1, hW1⟩ : ∃ W1, (W0.alloc (.deferred (some []))).alloc (.loop rec) = W1 := ⟨_, rfl⟩
    have hB1 : Below W0.heap.size W0 W1 := by rw [← hW1]; exact ((Below.refl _ W0).alloc (Nat.le_refl _) _).alloc (by simp) _
    have hl1 : W1.heap[W0.heap.size + 1]? = some (.loop rec) := by
      rw [← hW1]; have := World.alloc_heap_new (W0.alloc (.deferred (some []))) (.loop rec); rwa [World.size_alloc] at this
    have hd1 : W1.heap[W0.heap.size]? = some (.deferred (some [])) := by
      rw [← hW1]; exact (Below.heap_alloc _ _ _ (by simp)).trans (World.alloc_heap_new W0 _)
    rw [hW1]
    clear hW1
    have same : ∀ (B : Nat) (o : Obj), W0.heap[B]? = some o → W1.heap[B]? = some o := fun B o ho => (hB1.block B (Array.getElem?_eq_some_iff.1 ho).1).trans ho
    have hP1 := HP.out.below (hlow.trans (hB1.mono hlow.size))
    have hC1 : CurveAt W1 w.heap.size b off bv offv c.n cL cV c.L c.A c.B := by
      have x1 := same _ _ X1
      exact ⟨(Array.getElem?_eq_some_iff.1 x1).1, cell_of_block x1 0 (by simp), cell_of_block x1 1 (by simp), hP1⟩
    refine all1_in (n - 1) (W0.heap.size + 1) aM w1.heap.size (w1.heap.size + 1 + 1) (w1.heap.size + 1) w.heap.size b off bv offv cL cV bm offm k cM c p M m (by omega) hmk G.out HOK.out HGO.out HST.out HaM.out ?ne _ ?abide ?round W1 ?reads (same _ _ hS0) ?start
    case ne =>
      have l1 := HP.out.lb
      have l2 := HP.out.vb
      refine ⟨?_, ?_, ?_, ?_, ?_, ?_⟩ <;> omega
    case abide => exact fun j W W' hb hg => hb.kept (by omega) (by omega) hg
    case start =>
      exact ⟨⟨.slice none 0 0, same _ _ X3, World.ownsRow_nil _ _ _ _, by simp [Value.ownBlock]⟩, same _ _ X5, same _ _ X4, same _ _ X1, same _ _ ha0, same _ _ hp0, hl1, hd1, hlow.trans (hB1.mono hlow.size)⟩
    case reads =>
      exact ⟨hC1, cell_of_block (same _ _ ha0) 0 (by simp), cell_of_block (same _ _ hp0) 0 (by simp), fun i hi => ((hlow.trans (hB1.mono hlow.size)).cell (p := ⟨bm, offm + i, none⟩) hbm).trans (HM.out i hi)⟩
    case round =>
      intro j W hb hjm hS
      refine yieldAt_J hb.loop r1 r3 r4 r5 r6 rfl ?_
      obtain ⟨vl, hbx, hrow, hnS⟩ := hb.row
      have bc0 := hbx.cell
      have Hhb := Lib.hid hb
      have Hrow := Lib.hid hrow
      have Hbx := Lib.hid hbx
      have HSt := Lib.hid hS
      clear hb hrow hbx hS r3 r4 r5 r6
      unfold Dr3.val
      gi_wp2_with fail
      refine ⟨(Below.heap_alloc _ _ _ (Array.getElem?_eq_some_iff.1 Hhb.out.loop).1).trans Hhb.out.loop, ?_⟩
      obtain ⟨i0, hi, hz0, hz1, hz2⟩ := info_parts infoD
      have hlp := (Array.getElem?_eq_some_iff.1 Hhb.out.loop).1
      obtain ⟨Wb, hWb⟩ : ∃ Wb, (W.alloc (.cells #[.int .i64 (c.outAt p M j).d, .int .i64 (c.outAt p M j).lo, .int .i64 (c.outAt p M j).hi] 63)).putObj (W0.heap.size + 1) (.loop { rec with state := .busy }) = Wb := ⟨_, rfl⟩
      have hg1 : W.grownBy Wb (some (W0.heap.size + 1)) := by rw [← hWb]; exact grownBy_trans (World.grownBy_alloc W _ _) (grownBy_putObj' _ _ _)
      have hzb : Wb.heap.size = W.heap.size + 1 := by rw [← hWb]; simp
      have hdb : Wb.heap[W.heap.size]? = some (.cells #[.int .i64 (c.outAt p M j).d, .int .i64 (c.outAt p M j).lo, .int .i64 (c.outAt p M j).hi] 63 (0, 0)) := by
        rw [← hWb]; exact (World.putObj_heap_other (by omega)).trans (World.alloc_heap_new W _)
      have hlb : Wb.heap[W0.heap.size + 1]? = some (.loop { rec with state := .busy }) := by
        rw [← hWb]; exact World.putObj_heap_same (by simp; omega)
      rw [hWb]
      clear hWb
      have hl2 : Boxed Wb (w.heap.size + 2) 59 vl := Hbx.out.kept hg1 (by simp; omega)
      have hr2 : Wb.ownsRow w.heap.size 63 3 vl j (c.outs p M j) := Hrow.out.kept hg1 (.inr (Ne.symm (far_row Hrow.out Hhb.out.loop (fun _ h => by cases h))))
      have d0 := cell_of_block hdb 0 (by simp)
      have d1 := cell_of_block hdb 1 (by simp)
      have d2 := cell_of_block hdb 2 (by simp)
      simp at d0 d1 d2
      have l0 := hl2.cell
      have Hsz := Lib.hid hsz
      have Hzb := Lib.hid hzb
      have hle : W.heap.size + 1 ≤ Wb.heap.size := by omega
      clear bc0 hsz hzb X1 X3 X4 X5 ha0 hp0 hS0 hlow hC1 hP1 hB1 same hl1 hd1
      gi_wp2_with (gi_at_builtin; refine wpListIn_append_own _ rfl _ _ 59 rfl w.heap.size 63 i0 (.agg #[.int .i64 0, .int .i64 0, .int .i64 0]) 3 24 Try.underlying59 hi hz0 hz1 hz2 rfl (by decide) _ _ _ rfl (hr2.alloc _) ⟨Wb.heap.size, 0, none⟩ 1 1 [.int .i64 (c.outAt p M j).d, .int .i64 (c.outAt p M j).lo, .int .i64 (c.outAt p M j).hi] rfl rfl (news3 _ _ _ _ _) (by simp [Value.oneCell']) (by unfold maxLen; omega) (by omega) (by have := Hhb.out.low.size; simp; omega) ?_; intro v' w3 hown' hgrow _; obtain ⟨g', cap', rfl⟩ := ownsRow_succ hown'; obtain ⟨hv1, hv2, hr3, hk3, hb3⟩ := hl2.appended (by decide) hr2 (by have := Hhb.out.low.size; omega) (by omega) hown' hgrow; have hc1 := hv1.cell; have hf1 := hv1.frozen)
      obtain ⟨e1, e2, e3⟩ := round_done (b := b) (bv := bv) (bm := bm) (by omega) (by have := Hsz.out; omega) Hhb.out HSt.out Hrow.out hg1 hlb hgrow hv1 hown' HP.out.lb HP.out.vb hbm
      have er : ({ ({ rec with state := .busy } : Loop) with state := .ready, pending := none } : Loop) = rec := by cases rec; simp_all
      refine ⟨_, _, run_endRound none e1, rfl, ?_⟩
      simp only [Option.isNone_none, if_true]
      rw [er]
      exact ⟨e2, e3⟩
  case ret =>
    rintro rec v W r1 r2 (⟨rfl, _, hb, hs⟩ | ⟨_, h, _⟩)
    · refine ⟨hb.loop, ?_⟩
      obtain ⟨vl, hbx, hrow, hnS⟩ := hb.row
      have hD := (Array.getElem?_eq_some_iff.1 hb.loop).1
      obtain ⟨av, cv, rfl⟩ : ∃ av cv, vl = .slice av m cv := by
        rcases hrow.2 with ⟨rfl, h0⟩ | ⟨g, cap, _, rfl, _⟩
        · exact ⟨none, 0, by rw [h0]⟩
        · exact ⟨_, _, rfl⟩
      obtain ⟨W5, hW5⟩ : ∃ W5, W.putObj (W0.heap.size + 1) (.loop { rec with state := .exhausted }) = W5 := ⟨_, rfl⟩
      have hg5 : W.grownBy W5 (some (W0.heap.size + 1)) := by rw [← hW5]; exact grownBy_putObj' _ _ _
      have hr5 : W5.ownsRow w.heap.size 63 3 (.slice av m cv) m (c.outs p M m) := hrow.kept hg5 (.inr (Ne.symm (far_row hrow hb.loop (fun _ h => by cases h))))
      have same : ∀ (B : Nat) (o : Obj), W.heap[B]? = some o → B ≠ W0.heap.size + 1 → W5.heap[B]? = some o := fun B o ho hB => (hg5.block B (Array.getElem?_eq_some_iff.1 ho).1 (by simpa using hB)).trans ho
      rw [hW5]
      clear hW5
      have k2 : W5.heap[w.heap.size + 2]? = some (.cells #[.slice av m cv] 59 (0, 0)) := same _ _ hbx (by omega)
      have k3 := same _ _ hb.fin (by omega)
      have k4 : W5.heap[w.heap.size + 4]? = some (.cells #[.int .i64 0] 44 (0, 0)) := same _ _ hb.err (by omega)
      have ks := same _ _ hs (by omega)
      have kd := same _ _ hb.dfr (by omega)
      have s0 := cell_of_block ks 0 (by simp)
      have s1 := cell_of_block ks 1 (by simp)
      have s2 := cell_of_block ks 2 (by simp)
      have l0 := cell_of_block k2 0 (by simp)
      have f0 := frozen_of_block k2 0
      have z0 := cell_of_block k3 0 (by simp)
      have z1 := cell_of_block k3 1 (by simp)
      have z2 := cell_of_block k3 2 (by simp)
      have f1 := frozen_of_block k3 0
      have f2 := frozen_of_block k3 1
      have f3 := frozen_of_block k3 2
      have e0 := cell_of_block k4 0 (by simp)
      have f4 := frozen_of_block k4 0
      simp at s0 s1 s2 l0 z0 z1 z2 e0
      have Hlow := Lib.hid hb.low
      have K2 := Lib.hid k2
      have K3 := Lib.hid k3
      have K4 := Lib.hid k4
      have KS := Lib.hid ks
      have KD := Lib.hid kd
      have HR5 := Lib.hid hr5
      have Hg5 := Lib.hid hg5
      have Hsz := Lib.hid hsz
      clear hb hbx hrow hs same hsz X1 X3 X4 X5 ha0 hp0 hS0 hlow k2 k3 k4 ks kd hr5 hg5
      gi_wp2_with fail
      gi_region
      gi_wp2_with fail
      obtain ⟨X, hX⟩ : ∃ X, (((((W5.setCell ⟨w.heap.size + 1 + 1, 0, none⟩ (.slice av m cv)).setCell ⟨w.heap.size + 1 + 1 + 1, 0, none⟩ (.int .i64 (c.potAt p M m).v)).setCell ⟨w.heap.size + 1 + 1 + 1, 1, none⟩ (.int .i64 (c.potAt p M m).lo)).setCell
        ⟨w.heap.size + 1 + 1 + 1, 2, none⟩ (.int .i64 (c.potAt p M m).hi)).setCell ⟨w.heap.size + 1 + 1 + 1 + 1, 0, none⟩ (.int .i64 0)).drew = X := ⟨_, rfl⟩
      obtain ⟨oth, x2, x3, x4, xlow⟩ := five_stores (N := w.heap.size) 59 58 44 (by omega) (by omega) (by omega) (by omega) (by omega) (by omega) K2.out K3.out K4.out hX
      rw [hX]
      clear hX
      have hsz := Hsz.out
      have xd := (oth W0.heap.size (by omega) (by omega) (by omega)).trans KD.out
      have y2 := (World.putObj_heap_other (o := .deferred none) (show w.heap.size + 1 + 1 ≠ W0.heap.size by omega)).trans x2
      have y3 := (World.putObj_heap_other (o := .deferred none) (show w.heap.size + 1 + 1 + 1 ≠ W0.heap.size by omega)).trans x3
      have y4 := (World.putObj_heap_other (o := .deferred none) (show w.heap.size + 1 + 1 + 1 + 1 ≠ W0.heap.size by omega)).trans x4
      unfold bodyPostM
      refine ⟨by simp, .inl ⟨W0.heap.size, _, rfl, run_takeDeferred xd, ?_⟩⟩
      refine ⟨by simp, .inr ⟨(fun h => (by cases h)), Fn.func 36, _, 36, #[.pointer (some ⟨w.heap.size + 1 + 1 + 1 + 1, 0, none⟩), .pointer (some ⟨w.heap.size + 1 + 1, 0, none⟩)], rfl, by simp [invoke, go_sem, enters_of Try.func36 (by kernel_rfl) rfl], fun _ _ => trivial, ?_⟩⟩
      refine (defer_idle _ (w.heap.size + 1 + 1 + 1 + 1) (w.heap.size + 1 + 1) _ (cell_of_block y4 0 (by simp)) (frozen_of_block y4 0)).mono ?_
      rintro e u' Z ⟨rfl, rfl, hZ⟩
      obtain ⟨zo, z4', zlow⟩ := leave_world (N := w.heap.size) (by omega) (by omega) (by omega) x4 hZ
      clear hZ
      have zz2 := (zo (w.heap.size + 1 + 1) (by omega) (by omega)).trans x2
      have zz3 := (zo (w.heap.size + 1 + 1 + 1) (by omega) (by omega)).trans x3
      have b0 := cell_of_block zz2 0 (by simp)
      have b1 := cell_of_block zz3 0 (by simp)
      have b2 := cell_of_block zz3 1 (by simp)
      have b3 := cell_of_block zz3 2 (by simp)
      have b4 := cell_of_block z4' 0 (by simp)
      simp at b0 b1 b2 b3 b4
      refine ⟨.tuple #[.slice av m cv, .agg #[.int .i64 (c.potAt p M m).v, .int .i64 (c.potAt p M m).lo, .int .i64 (c.potAt p M m).hi], .int .i64 0], by simp [results, Try.results12, go_sem, b0, b1, b2, b3, b4], ?_⟩
      have low5 : Below w.heap.size w W5 := Hlow.out.grown Hg5.out Hlow.out.size (fun k e => by cases e; omega)
      refine ⟨(low5.trans xlow).trans zlow, .inl ⟨rfl, _, rfl, ownsRow_same HR5.out fun g hg => ?_⟩⟩
      have f : ∀ (B : Nat) (o : Obj), W5.heap[B]? = some o → (∀ cur, o ≠ .cells cur 63 (0, 0)) → g ≠ B := fun B o ho hne e => far_row HR5.out ho hne (e ▸ hg)
      have cellsNe : ∀ (cs : Array Value) (t : TypeId), t ≠ 63 → ∀ cur, Obj.cells cs t (0, 0) ≠ .cells cur 63 (0, 0) := fun cs t ht cur e => by cases e; exact ht rfl
      have g2 := f _ _ K2.out (cellsNe _ _ (by decide))
      have g3 := f _ _ K3.out (cellsNe _ _ (by decide))
      have g4 := f _ _ K4.out (cellsNe _ _ (by decide))
      have gd := f _ _ KD.out (fun _ e => by cases e)
      exact (zo g gd g4).trans (oth g g2 g3 g4)
    · cases h
  case pan =>
    rintro rec chain W (⟨_, ⟨_, h⟩, _⟩ | ⟨hlt, h, hb⟩)
    · cases h
    · cases h
      obtain ⟨vl, hbx, hrow, hnS⟩ := hb.row
      have hD := (Array.getElem?_eq_some_iff.1 hb.loop).1
      refine ⟨by simp, .inl ⟨W0.heap.size, _, rfl, run_takeDeferred hb.dfr, ?_⟩⟩
      have y2 := (World.putObj_heap_other (o := .deferred none) (show w.heap.size + 1 + 1 ≠ W0.heap.size by omega)).trans hbx
      have y3 := (World.putObj_heap_other (o := .deferred none) (show w.heap.size + 1 + 1 + 1 ≠ W0.heap.size by omega)).trans hb.fin
      have y4 := (World.putObj_heap_other (o := .deferred none) (show w.heap.size + 1 + 1 + 1 + 1 ≠ W0.heap.size by omega)).trans hb.err
      refine ⟨by simp, .inr ⟨(fun h => (by cases h)), Fn.func 36, _, 36, #[.pointer (some ⟨w.heap.size + 1 + 1 + 1 + 1, 0, none⟩), .pointer (some ⟨w.heap.size + 1 + 1, 0, none⟩)], rfl, by simp [invoke, go_sem, enters_of Try.func36 (by kernel_rfl) rfl], fun _ _ => trivial, ?_⟩⟩
      refine (defer_caught _ (w.heap.size + 1 + 1 + 1 + 1) (w.heap.size + 1 + 1) 0 (c.errAt p M m) vl [] _ (cell_of_block y4 0 (by simp)) (frozen_of_block y4 0) (cell_of_block y2 0 (by simp)) (frozen_of_block y2 0) (by omega) (by simpa using HST.out hlt)).mono ?_
      rintro e u' Z ⟨rfl, rfl, w9, hb9, hZ⟩
      have lowY : Below w.heap.size w (W.putObj W0.heap.size (.deferred none)) := hb.low.grown (grownBy_putObj' _ _ _) hb.low.size (fun k e => by cases e; omega)
      have v2 := (hb9.block _ (Array.getElem?_eq_some_iff.1 y2).1).trans y2
      have v3 := (hb9.block _ (Array.getElem?_eq_some_iff.1 y3).1).trans y3
      have v4 := (hb9.block _ (Array.getElem?_eq_some_iff.1 y4).1).trans y4
      have far : ∀ (W : World) (b k : Nat) (v : Value) (B : Nat), B ≠ b → (W.setCell ⟨b, k, none⟩ v).heap[B]? = W.heap[B]? := fun W b k v B h => Below.heap_setCell W ⟨b, k, none⟩ v B h
      have zz2 : Z.heap[w.heap.size + 1 + 1]? = some (.cells #[.slice none 0 0] 59 (0, 0)) := by
        rw [hZ]; exact block_set 0 _ ((far _ _ _ _ _ (by omega)).trans v2)
      have zz3 : Z.heap[w.heap.size + 1 + 1 + 1]? = some (.cells #[.int .i64 0, .int .i64 0, .int .i64 0] 58 (0, 0)) := by
        rw [hZ]; exact (far _ _ _ _ _ (by omega)).trans ((far _ _ _ _ _ (by omega)).trans v3)
      have zz4 : Z.heap[w.heap.size + 1 + 1 + 1 + 1]? = some (.cells #[.int .i64 (c.errAt p M m)] 44 (0, 0)) := by
        rw [hZ]; exact (far _ _ _ _ _ (by omega)).trans (block_set 0 _ v4)
      have lowZ : Below w.heap.size w Z := by
        rw [hZ]; exact ((lowY.trans (hb9.mono lowY.size)).setCell (p := ⟨w.heap.size + 1 + 1 + 1 + 1, 0, none⟩) (by simp; omega) _).setCell (p := ⟨w.heap.size + 1 + 1, 0, none⟩) (by simp; omega) _
      clear hZ hb9 v2 v3 v4 y2 y3 y4
      have b0 := cell_of_block zz2 0 (by simp)
      have b1 := cell_of_block zz3 0 (by simp)
      have b2 := cell_of_block zz3 1 (by simp)
      have b3 := cell_of_block zz3 2 (by simp)
      have b4 := cell_of_block zz4 0 (by simp)
      simp at b0 b1 b2 b3 b4
      exact ⟨.tuple #[.slice none 0 0, .agg #[.int .i64 0, .int .i64 0, .int .i64 0], .int .i64 (c.errAt p M m)], by simp [results, Try.results12, go_sem, b0, b1, b2, b3, b4], lowZ, .inr ⟨hlt, rfl⟩⟩
end Go.Proofs.Ytfefmgadfklgmaa.L4

namespace Go.Proofs.Ytfefmgadfklgmaa.L4
open Go.RowKit

/-- how many amounts can be drawn -/
def Crv.stop (c : Crv) (p : Pot3) (M : Nat → Int) : Nat → Nat
  | 0 => 0
  | k + 1 => if c.stop p M k = k ∧ c.errAt p M k = 0 then k + 1 else c.stop p M k
theorem Crv.stop_le (c : Crv) (p : Pot3) (M : Nat → Int) : ∀ k, c.stop p M k ≤ k
  | 0 => Nat.le_refl _
  | k + 1 => by unfold Crv.stop; have := c.stop_le p M k; split <;> omega
theorem Crv.stop_lt (c : Crv) (p : Pot3) (M : Nat → Int) : ∀ k j, j < c.stop p M k → c.errAt p M j = 0
  | 0, j, h => by simp [Crv.stop] at h
  | k + 1, j, h => by
    unfold Crv.stop at h
    split at h
    · rename_i hc
      by_cases e : j = k
      · rw [e]; exact hc.2
      · exact c.stop_lt p M k j (by rw [hc.1]; omega)
    · exact c.stop_lt p M k j h
theorem Crv.stop_bad (c : Crv) (p : Pot3) (M : Nat → Int) : ∀ k, c.stop p M k < k → c.errAt p M (c.stop p M k) ≠ 0
  | 0, h => by simp at h
  | k + 1, h => by
    unfold Crv.stop at h ⊢
    split
    · rename_i hc; simp only [hc, and_self, if_true] at h; omega
    · rename_i hc
      simp only [hc, if_false] at h
      by_cases e : c.stop p M k = k
      · rw [e]; exact fun hx => hc ⟨e, hx⟩
      · exact c.stop_bad p M k (by have := c.stop_le p M k; omega)

/-- the error of a run -/
def runErr (m : Nat) (c : Crv) (p : Pot3) (M : Nat → Int) (k : Nat) : Int :=
  if earlyE c.n m c.L c.A c.B p.v p.lo p.hi k ≠ 0 then earlyE c.n m c.L c.A c.B p.v p.lo p.hi k else if c.stop p M k < k then c.errAt p M (c.stop p M k) else 0

theorem potAt_ok {c : Crv} {p : Pot3} {M : Nat → Int} {k : Nat} (g : Good c.n c.L c.A c.B) (hp : p.ok) : ∀ j, j ≤ c.stop p M k → (c.potAt p M j).ok
  | 0, _ => hp
  | j + 1, h => (next_ok g (potAt_ok (k := k) g hp j (by omega)) (c.stop_lt p M k j (by omega))).1

theorem early_zero {n m : Nat} {L A B : Nat → Int} {v lo hi : Int} {k : Nat} (h : earlyE n m L A B v lo hi k = 0) : k ≤ 64 ∧ m = n ∧ Good n L A B ∧ 0 ≤ lo ∧ lo ≤ hi ∧ hi ≤ v ∧ v ≤ 1073741824 := by
  unfold earlyE at h
  split at h
  · omega
  · rename_i hk
    split at h
    · rename_i hc
      simp only [Bool.and_eq_true] at hc
      obtain ⟨h1, h2⟩ := hc
      obtain ⟨e, g⟩ := good_of h1
      simp only [potB, Bool.and_eq_true] at h2
      have a := inB_t.1 h2.1
      have b := spanB_t.1 h2.2
      exact ⟨by omega, e, g, by omega, by omega, by omega, by omega⟩
    · omega

theorem ints_some {w : World} {a : Option Addr} {k : Nat} {M : Nat → Int} (h : IntsAt w a k M) (hw : 0 < w.heap.size) : ∃ b off, (0 < k → a = some ⟨b, off, none⟩) ∧ b < w.heap.size ∧ ∀ i, i < k → w.cell? ⟨b, off + i, none⟩ = some (.int .i64 (M i)) := by
  rcases h with h | ⟨b, off, rfl, hlt, hc⟩
  · exact ⟨0, 0, by omega, hw, fun i hi => by omega⟩
  · exact ⟨b, off, fun _ => rfl, hlt, hc⟩

section
variable (aL aV aM : Option Addr) (m cL cV k cM : Nat) (c : Crv) (p : Pot3) (M : Nat → Int) (w : World) (hn : c.n ≤ 1000000000000) (hm : m ≤ 1000000000000) (hk : k ≤ 1000000000000) (hL : IntsAt w aL c.n c.L) (hV : SpansAt w aV m c.A c.B) (hM : IntsAt w aM k M)
include hn hm hk hL hV hM

theorem run_err (x : Int) (hx : runErr m c p M k = x) (h0 : x ≠ 0) :
    Calls Try.prog 12 #[.agg #[.slice aL c.n cL, .slice aV m cV], .agg #[.int .i64 p.v, .int .i64 p.lo, .int .i64 p.hi], .slice aM k cM] w fun e w' =>
      e = .returned (.tuple #[.slice none 0 0, .agg #[.int .i64 0, .int .i64 0, .int .i64 0], .int .i64 x]) ∧ Below w.heap.size w w' := by
  unfold runErr at hx
  split at hx
  · exact run_early aL aV aM c.n m cL cV k cM c.L c.A c.B p.v p.lo p.hi w hn hm hk hL hV x hx (by simpa using h0)
  · rename_i hE
    have hE : earlyE c.n m c.L c.A c.B p.v p.lo p.hi k = 0 := Decidable.byContradiction hE
    split at hx
    · rename_i hs
      obtain ⟨k64, rfl, g, p0, p1, p2, p3⟩ := early_zero hE
      have two := g.two
      rcases hL with h | ⟨b, off, rfl, hb, hls⟩
      · omega
      rcases hV with h | ⟨bv, offv, rfl, hbv, hvs⟩
      · omega
      obtain ⟨bm, offm, ha, hbm, hms⟩ := ints_some hM (by omega)
      have := runMain_in 3 aM b off bv offv cL cV bm offm k cM c p M (c.stop p M k) (by omega) hn k64 (c.stop_le p M k) g (potAt_ok g ⟨p0, p1, p2, p3⟩) (fun j hj => c.stop_lt p M k j hj) (c.stop_bad p M k) ha w ⟨hb, hbv, hls, hvs⟩ hbm hms hE
      refine (callsIn_wide.1 this).mono ?_
      rintro e w' ⟨h1, ⟨h2, _⟩ | ⟨_, h2⟩⟩
      · omega
      · exact ⟨by rw [h2, hx], h1⟩
    · omega

omit hk in
theorem run_ok (hx : runErr m c p M k = 0) :
    Calls Try.prog 12 #[.agg #[.slice aL c.n cL, .slice aV m cV], .agg #[.int .i64 p.v, .int .i64 p.lo, .int .i64 p.hi], .slice aM k cM] w fun e w' =>
      ∃ v, e = .returned (.tuple #[v, .agg #[.int .i64 (c.potAt p M k).v, .int .i64 (c.potAt p M k).lo, .int .i64 (c.potAt p M k).hi], .int .i64 0]) ∧ w'.ownsRow w.heap.size 63 3 v k (c.outs p M k) ∧ Below w.heap.size w w' := by
  unfold runErr at hx
  split at hx
  · rename_i h; exact absurd hx h
  · rename_i hE
    have hE : earlyE c.n m c.L c.A c.B p.v p.lo p.hi k = 0 := Decidable.byContradiction hE
    split at hx
    · rename_i hs; exact absurd hx (c.stop_bad p M k hs)
    · rename_i hs
      obtain ⟨k64, rfl, g, p0, p1, p2, p3⟩ := early_zero hE
      have two := g.two
      rcases hL with h | ⟨b, off, rfl, hb, hls⟩
      · omega
      rcases hV with h | ⟨bv, offv, rfl, hbv, hvs⟩
      · omega
      obtain ⟨bm, offm, ha, hbm, hms⟩ := ints_some hM (by omega)
      have := runMain_in 3 aM b off bv offv cL cV bm offm k cM c p M (c.stop p M k) (by omega) hn k64 (c.stop_le p M k) g (potAt_ok g ⟨p0, p1, p2, p3⟩) (fun j hj => c.stop_lt p M k j hj) (c.stop_bad p M k) ha w ⟨hb, hbv, hls, hvs⟩ hbm hms hE
      refine (callsIn_wide.1 this).mono ?_
      rintro e w' ⟨h1, ⟨_, v, h2, h3⟩ | ⟨h2, _⟩⟩
      · exact ⟨v, h2, h3, h1⟩
      · omega
end

theorem run_zero {m : Nat} {c : Crv} {p : Pot3} {M : Nat → Int} {k : Nat} (hx : runErr m c p M k = 0) : earlyE c.n m c.L c.A c.B p.v p.lo p.hi k = 0 ∧ k ≤ 64 ∧ m = c.n ∧ Good c.n c.L c.A c.B ∧ p.ok ∧ (∀ j, j < k → c.errAt p M j = 0) ∧ ∀ j, j ≤ k → (c.potAt p M j).ok := by
  unfold runErr at hx
  split at hx
  · rename_i h; exact absurd hx h
  · rename_i hE
    have hE : earlyE c.n m c.L c.A c.B p.v p.lo p.hi k = 0 := Decidable.byContradiction hE
    split at hx
    · rename_i hs; exact absurd hx (c.stop_bad p M k hs)
    · rename_i hs
      obtain ⟨k64, e, g, p0, p1, p2, p3⟩ := early_zero hE
      have e2 : c.stop p M k = k := by have := c.stop_le p M k; omega
      exact ⟨hE, k64, e, g, ⟨p0, p1, p2, p3⟩, fun j hj => c.stop_lt p M k j (by omega), fun j hj => potAt_ok (k := k) g ⟨p0, p1, p2, p3⟩ j (by omega)⟩
end Go.Proofs.Ytfefmgadfklgmaa.L4

