/- Contract of still.Run beyond its first errors. Contracts of still.Run: with an error, and without one. Contracts of sample, Cycle. Contract of alive: it returns true. Contracts of Wear and its function, inner. No conditions beyond each theorem's own. -/
import Derived.Test.YticgkhoidgkejaaGe
import Derived.Test.YticgkhoidgkejaaGa
import Derived.Test.YticgkhoidgkejaaGb
set_option linter.unusedVariables false
set_option linter.unusedSimpArgs false
set_option linter.unusedSectionVars false
set_option linter.constructorNameAsVariable false
namespace Go.Proofs.Yticgkhoidgkejaa
open Go.RowKit Go.Shelf

attribute [local go_sem] Oper.semAt_some

theorem infoD : (Try.prog.info? 36).map (fun i => (i.zero, i.size, i.bytes)) = some (some (.agg #[.int .i64 0, .int .i64 0, .int .i64 0]), 3, 24) := by kernel_rfl

theorem news3 (w : World) (x y z : Value) (t : TypeId) : ∀ (i : Nat) (u : Value), [x, y, z][i]? = some u → (w.alloc (.cells #[x, y, z] t)).cell? ((⟨w.heap.size, 0, none⟩ : Addr).add i) = some u := by
  intro i u h
  have hb := World.alloc_heap_new w (.cells #[x, y, z] t)
  match i, h with
  | 0, h => exact (cell_of_block hb 0 (by simp)).trans (by simpa using h)
  | 1, h => exact (cell_of_block hb 1 (by simp)).trans (by simpa using h)
  | 2, h => exact (cell_of_block hb 2 (by simp)).trans (by simpa using h)
  | i + 3, h => simp at h

/-- how a run ends -/
def RunEnds (c : Crv) (p : Pot3) (M : Nat → Int) (k m : Nat) (w : World) (e : Ending) (w' : World) : Prop :=
  Below w.heap.size w w' ∧
  ((m = k ∧ ∃ v, e = .returned (.tuple #[v, .agg #[.int .i64 (c.potAt p M k).v, .int .i64 (c.potAt p M k).lo, .int .i64 (c.potAt p M k).hi], .int .i64 0]) ∧
      w'.ownsRow w.heap.size 36 3 v k (c.outs p M k)) ∨
   (m < k ∧ e = .returned (.tuple #[.slice none 0 0, .agg #[.int .i64 0, .int .i64 0, .int .i64 0], .int .i64 (c.errAt p M m)])))

set_option maxRecDepth 100000 in
set_option maxHeartbeats 4000000 in
theorem runMain_in (n : Nat) (aM : Option Addr) (b off bv offv cL cV bm offm k cM : Nat) (c : Crv) (p : Pot3) (M : Nat → Int) (m : Nat) (hn : 3 ≤ n) (hcn : c.n ≤ 1000000000000) (hk : k ≤ 64) (hmk : m ≤ k) (g : Good c.n c.L c.A c.B)
    (hok : ∀ j, j ≤ m → (c.potAt p M j).ok) (hgo : ∀ j, j < m → c.errAt p M j = 0) (hst : m < k → c.errAt p M m ≠ 0) (haM : 0 < k → aM = some ⟨bm, offm, none⟩)
    (w : World) (hP : Pts w b off bv offv c.n c.L c.A c.B) (hbm : bm < w.heap.size) (hm : ∀ i, i < k → w.cell? ⟨bm, offm + i, none⟩ = some (.int .i64 (M i)))
    (hE : earlyE c.n c.n c.L c.A c.B p.v p.lo p.hi k = 0) :
    CallsIn Fence.wide n Try.prog 16 #[.agg #[.slice (some ⟨b, off, none⟩) c.n cL, .slice (some ⟨bv, offv, none⟩) c.n cV], .agg #[.int .i64 p.v, .int .i64 p.lo, .int .i64 p.hi], .slice aM k cM] w (RunEnds c p M k m w) := by
  have hmf : ∀ (fn : Fn) (first cap : Array Value) (w : World), (Instr.makeFunc fn first cap).run Try.prog w = .ok (.func fn first cap) w := fun _ _ _ _ => rfl
  have HP := Lib.hid hP; clear hP
  have HM := Lib.hid hm; clear hm
  have HE := Lib.hid hE; clear hE
  have HaM := Lib.hid haM; clear haM
  have HOK := Lib.hid hok; clear hok
  have HGO := Lib.hid hgo; clear hgo
  have HST := Lib.hid hst; clear hst
  have G := Lib.hid g; clear g
  refine callsIn_of_wp_marks Try.func16 rfl trivial ?_ rfl
  simp only [Try.ntmps16, List.size_toArray, List.length_cons, List.length_nil, Nat.reduceAdd, Nat.reduceSub, Array.replicate_succ, Array.replicate_zero, List.push_toArray, List.append_toArray, List.nil_append, List.cons_append]
  gi_wp2_with fail
  refine ⟨trivial, (fun h => (by cases h)), ?_⟩
  have hB := (((((Below.refl _ w).alloc (Nat.le_refl _) (.cells #[.slice (some ⟨b, off, none⟩) c.n cL, .slice (some ⟨bv, offv, none⟩) c.n cV] 25)).alloc (by simp) (.cells #[.int .i64 p.v, .int .i64 p.lo, .int .i64 p.hi] 29)).alloc (by simp; omega) (.cells #[.slice none 0 0] 51)).alloc (by simp; omega) (.cells #[.int .i64 0, .int .i64 0, .int .i64 0] 29)).alloc (by simp; omega) (.cells #[.int .i64 0] 32)
  have hP1 := HP.out.below hB
  refine (callsIn_wide.2 (early_any _ _ aM c.n c.n cL cV k cM c.L c.A c.B p.v p.lo p.hi _ hcn hcn (by omega) (.inr ⟨b, off, rfl, hP1.lb, hP1.ls⟩) (.inr ⟨bv, offv, rfl, hP1.vb, hP1.vs⟩))).mono ?_
  clear hP1
  rw [HE.out]
  rintro e w1 ⟨rfl, hb1⟩
  obtain ⟨z0, z1, z2, z3, z4, z5⟩ := five_blocks w (.cells #[.slice (some ⟨b, off, none⟩) c.n cL, .slice (some ⟨bv, offv, none⟩) c.n cV] 25) (.cells #[.int .i64 p.v, .int .i64 p.lo, .int .i64 p.hi] 29) (.cells #[.slice none 0 0] 51) (.cells #[.int .i64 0, .int .i64 0, .int .i64 0] 29) (.cells #[.int .i64 0] 32)
  have hs1 : w.heap.size + 5 ≤ w1.heap.size := by have := hb1.size; rw [z0] at this; exact this
  have Y1 := Lib.hid ((hb1.block w.heap.size (by rw [z0]; omega)).trans z1)
  have y2 := (hb1.block (w.heap.size + 1) (by rw [z0]; omega)).trans z2
  have Y3 := Lib.hid ((hb1.block (w.heap.size + 2) (by rw [z0]; omega)).trans z3)
  have Y4 := Lib.hid ((hb1.block (w.heap.size + 3) (by rw [z0]; omega)).trans z4)
  have Y5 := Lib.hid ((hb1.block (w.heap.size + 4) (by rw [z0]; omega)).trans z5)
  have b0 := cell_of_block y2 0 (by simp)
  have b1 := cell_of_block y2 1 (by simp)
  have b2 := cell_of_block y2 2 (by simp)
  simp at b0 b1 b2
  have HB := Lib.hid (hB.trans (hb1.mono hB.size)); clear hB hb1 z0 z1 z2 z3 z4 z5 y2
  gi_wp2_with fail
  refine ⟨trivial, (fun h => (by cases h)), ?_⟩
  refine (callsIn_wide.2 (all_any _ aM k cM _)).mono ?_
  rintro e w2 ⟨rfl, rfl⟩
  gi_wp2_with fail
  -- the world in which the loop begins
  have hB1 := HB.out
  obtain ⟨W0, hW0⟩ : ∃ W0, ((w1.alloc (.cells #[.int .i64 p.v, .int .i64 p.lo, .int .i64 p.hi, .pointer (some ⟨w.heap.size, 0, none⟩)] 66)).alloc (.cells #[.pointer (some ⟨w1.heap.size, 0, none⟩)] 76)).alloc (.cells #[.slice aM k cM] 22) = W0 := ⟨_, rfl⟩
  have hB0 : Below w1.heap.size w1 W0 := by rw [← hW0]; exact (((Below.refl _ w1).alloc (Nat.le_refl _) _).alloc (by simp) _).alloc (by simp; omega) _
  have hsz : W0.heap.size = w1.heap.size + 3 := by rw [← hW0]; simp
  have hS0 : StillBox W0 w1.heap.size p.v p.lo p.hi w.heap.size := by
    rw [← hW0]; exact (Below.heap_alloc _ _ _ (by simp; omega)).trans ((Below.heap_alloc _ _ _ (by simp)).trans (World.alloc_heap_new w1 _))
  have hp0 : W0.heap[w1.heap.size + 1]? = some (.cells #[.pointer (some ⟨w1.heap.size, 0, none⟩)] 76 (0, 0)) := by
    rw [← hW0]; refine (Below.heap_alloc _ _ _ (by simp)).trans ?_
    have := World.alloc_heap_new (w1.alloc (.cells #[.int .i64 p.v, .int .i64 p.lo, .int .i64 p.hi, .pointer (some ⟨w.heap.size, 0, none⟩)] 66)) (.cells #[.pointer (some ⟨w1.heap.size, 0, none⟩)] 76)
    rwa [World.size_alloc] at this
  have ha0 : W0.heap[w1.heap.size + 2]? = some (.cells #[.slice aM k cM] 22 (0, 0)) := by
    rw [← hW0]
    have := World.alloc_heap_new ((w1.alloc (.cells #[.int .i64 p.v, .int .i64 p.lo, .int .i64 p.hi, .pointer (some ⟨w.heap.size, 0, none⟩)] 66)).alloc (.cells #[.pointer (some ⟨w1.heap.size, 0, none⟩)] 76)) (.cells #[.slice aM k cM] 22)
    rwa [World.size_alloc, World.size_alloc] at this
  rw [hW0]
  clear hW0
  have hlow : Below w.heap.size w W0 := hB1.trans (hB0.mono hB1.size)
  have X1 := (hB0.block w.heap.size (by omega)).trans Y1.out
  have X3 := (hB0.block (w.heap.size + 2) (by omega)).trans Y3.out
  have X4 := (hB0.block (w.heap.size + 3) (by omega)).trans Y4.out
  have X5 := (hB0.block (w.heap.size + 4) (by omega)).trans Y5.out
  clear b0 b1 b2 hB1 hB0
  refine wpIn_rangeFunc_J (gf := 34) (lb := #[.pointer (some ⟨w1.heap.size + 1 + 1, 0, none⟩), .pointer (some ⟨w1.heap.size + 1, 0, none⟩)]) rfl (enters_of Try.func34 (by kernel_rfl) rfl)
    (fun rec e W => AllEnds c p M k m w1.heap.size w.heap.size (Between c p M w #[.slice (some ⟨b, off, none⟩) c.n cL, .slice (some ⟨bv, offv, none⟩) c.n cV] #[.slice aM k cM] #[.pointer (some ⟨w1.heap.size, 0, none⟩)] w1.heap.size W0.heap.size rec) e W) ?call ?ret ?pan ?out
  case out => rintro rec W (⟨_, ⟨_, h⟩, _⟩ | ⟨_, h, _⟩) <;> cases h
  case call =>
    intro rec r1 r2 r3 r4 r5 r6
    obtain ⟨W1, hW1⟩ : ∃ W1, (W0.alloc (.deferred (some []))).alloc (.loop rec) = W1 := ⟨_, rfl⟩
    have hB1 : Below W0.heap.size W0 W1 := by rw [← hW1]; exact ((Below.refl _ W0).alloc (Nat.le_refl _) _).alloc (by simp) _
    have hl1 : W1.heap[W0.heap.size + 1]? = some (.loop rec) := by
      rw [← hW1]; have := World.alloc_heap_new (W0.alloc (.deferred (some []))) (.loop rec); rwa [World.size_alloc] at this
    have hd1 : W1.heap[W0.heap.size]? = some (.deferred (some [])) := by
      rw [← hW1]; exact (Below.heap_alloc _ _ _ (by simp)).trans (World.alloc_heap_new W0 _)
    rw [hW1]
    clear hW1
    have same : ∀ (B : Nat) (o : Obj), W0.heap[B]? = some o → W1.heap[B]? = some o := fun B o ho => (hB1.block B (Array.getElem?_eq_some_iff.1 ho).1).trans ho
    have hP1 := HP.out.below (hlow.trans (hB1.mono hlow.size))
    have hC1 : CurveAt W1 w.heap.size b off bv offv c.n cL cV c.L c.A c.B := by
      have x1 := same _ _ X1
      exact ⟨(Array.getElem?_eq_some_iff.1 x1).1, cell_of_block x1 0 (by simp), cell_of_block x1 1 (by simp), hP1⟩
    refine all1_in (n - 1) (W0.heap.size + 1) aM w1.heap.size (w1.heap.size + 1 + 1) (w1.heap.size + 1) w.heap.size b off bv offv cL cV bm offm k cM c p M m (by omega) hmk G.out HOK.out HGO.out HST.out HaM.out ?ne _ ?abide ?round W1 ?reads (same _ _ hS0) ?start
    case ne =>
      have l1 := HP.out.lb
      have l2 := HP.out.vb
      refine ⟨?_, ?_, ?_, ?_, ?_, ?_⟩ <;> omega
    case abide => exact fun j W W' hb hg => hb.kept (by omega) (by omega) hg
    case start =>
      exact ⟨⟨.slice none 0 0, same _ _ X3, World.ownsRow_nil _ _ _ _, by simp [Value.ownBlock]⟩, same _ _ X5, same _ _ X4, same _ _ X1, same _ _ ha0, same _ _ hp0, hl1, hd1, hlow.trans (hB1.mono hlow.size)⟩
    case reads =>
      exact ⟨hC1, cell_of_block (same _ _ ha0) 0 (by simp), cell_of_block (same _ _ hp0) 0 (by simp), fun i hi => ((hlow.trans (hB1.mono hlow.size)).cell (p := ⟨bm, offm + i, none⟩) hbm).trans (HM.out i hi)⟩
    case round =>
      intro j W hb hjm hS
      refine yieldAt_J hb.loop r1 r3 r4 r5 r6 rfl ?_
      obtain ⟨vl, hbx, hrow, hnS⟩ := hb.row
      have bc0 := hbx.cell
      have Hhb := Lib.hid hb
      have Hrow := Lib.hid hrow
      have Hbx := Lib.hid hbx
      have HSt := Lib.hid hS
      clear hb hrow hbx hS r3 r4 r5 r6
      unfold Dr3.val
      gi_wp2_with fail
      refine ⟨(Below.heap_alloc _ _ _ (Array.getElem?_eq_some_iff.1 Hhb.out.loop).1).trans Hhb.out.loop, ?_⟩
      obtain ⟨i0, hi, hz0, hz1, hz2⟩ := info_parts infoD
      have hlp := (Array.getElem?_eq_some_iff.1 Hhb.out.loop).1
      obtain ⟨Wb, hWb⟩ : ∃ Wb, (W.alloc (.cells #[.int .i64 (c.outAt p M j).d, .int .i64 (c.outAt p M j).lo, .int .i64 (c.outAt p M j).hi] 36)).putObj (W0.heap.size + 1) (.loop { rec with state := .busy }) = Wb := ⟨_, rfl⟩
      have hg1 : W.grownBy Wb (some (W0.heap.size + 1)) := by rw [← hWb]; exact grownBy_trans (World.grownBy_alloc W _ _) (grownBy_putObj' _ _ _)
      have hzb : Wb.heap.size = W.heap.size + 1 := by rw [← hWb]; simp
      have hdb : Wb.heap[W.heap.size]? = some (.cells #[.int .i64 (c.outAt p M j).d, .int .i64 (c.outAt p M j).lo, .int .i64 (c.outAt p M j).hi] 36 (0, 0)) := by
        rw [← hWb]; exact (World.putObj_heap_other (by omega)).trans (World.alloc_heap_new W _)
      have hlb : Wb.heap[W0.heap.size + 1]? = some (.loop { rec with state := .busy }) := by
        rw [← hWb]; exact World.putObj_heap_same (by simp; omega)
      rw [hWb]
      clear hWb
      have hl2 : Boxed Wb (w.heap.size + 2) 51 vl := Hbx.out.kept hg1 (by simp; omega)
      have hr2 : Wb.ownsRow w.heap.size 36 3 vl j (c.outs p M j) := Hrow.out.kept hg1 (.inr (Ne.symm (far_row Hrow.out Hhb.out.loop (fun _ h => by cases h))))
      have d0 := cell_of_block hdb 0 (by simp)
      have d1 := cell_of_block hdb 1 (by simp)
      have d2 := cell_of_block hdb 2 (by simp)
      simp at d0 d1 d2
      have l0 := hl2.cell
      have Hsz := Lib.hid hsz
      have Hzb := Lib.hid hzb
      have hle : W.heap.size + 1 ≤ Wb.heap.size := by omega
      clear bc0 hsz hzb X1 X3 X4 X5 ha0 hp0 hS0 hlow hC1 hP1 hB1 same hl1 hd1
      gi_wp2_with (gi_at_builtin; refine wpListIn_append_own _ rfl _ _ 51 rfl w.heap.size 36 i0 (.agg #[.int .i64 0, .int .i64 0, .int .i64 0]) 3 24 Try.underlying51 hi hz0 hz1 hz2 rfl (by decide) _ _ _ rfl (hr2.alloc _) ⟨Wb.heap.size, 0, none⟩ 1 1 [.int .i64 (c.outAt p M j).d, .int .i64 (c.outAt p M j).lo, .int .i64 (c.outAt p M j).hi] rfl rfl (news3 _ _ _ _ _) (by simp [Value.oneCell']) (by unfold maxLen; omega) (by omega) (by have := Hhb.out.low.size; simp; omega) ?_; intro v' w3 hown' hgrow _; obtain ⟨g', cap', rfl⟩ := ownsRow_succ hown'; obtain ⟨hv1, hv2, hr3, hk3, hb3⟩ := hl2.appended (by decide) hr2 (by have := Hhb.out.low.size; omega) (by omega) hown' hgrow; have hc1 := hv1.cell; have hf1 := hv1.frozen)
      obtain ⟨e1, e2, e3⟩ := round_done (b := b) (bv := bv) (bm := bm) (by omega) (by have := Hsz.out; omega) Hhb.out HSt.out Hrow.out hg1 hlb hgrow hv1 hown' HP.out.lb HP.out.vb hbm
      have er : ({ ({ rec with state := .busy } : Loop) with state := .ready, pending := none } : Loop) = rec := by cases rec; simp_all
      refine ⟨_, _, run_endRound none e1, rfl, ?_⟩
      simp only [Option.isNone_none, if_true]
      rw [er]
      exact ⟨e2, e3⟩
  case ret =>
    rintro rec v W r1 r2 (⟨rfl, _, hb, hs⟩ | ⟨_, h, _⟩)
    · refine ⟨hb.loop, ?_⟩
      obtain ⟨vl, hbx, hrow, hnS⟩ := hb.row
      have hD := (Array.getElem?_eq_some_iff.1 hb.loop).1
      obtain ⟨av, cv, rfl⟩ : ∃ av cv, vl = .slice av m cv := by
        rcases hrow.2 with ⟨rfl, h0⟩ | ⟨g, cap, _, rfl, _⟩
        · exact ⟨none, 0, by rw [h0]⟩
        · exact ⟨_, _, rfl⟩
      obtain ⟨W5, hW5⟩ : ∃ W5, W.putObj (W0.heap.size + 1) (.loop { rec with state := .exhausted }) = W5 := ⟨_, rfl⟩
      have hg5 : W.grownBy W5 (some (W0.heap.size + 1)) := by rw [← hW5]; exact grownBy_putObj' _ _ _
      have hr5 : W5.ownsRow w.heap.size 36 3 (.slice av m cv) m (c.outs p M m) := hrow.kept hg5 (.inr (Ne.symm (far_row hrow hb.loop (fun _ h => by cases h))))
      have same : ∀ (B : Nat) (o : Obj), W.heap[B]? = some o → B ≠ W0.heap.size + 1 → W5.heap[B]? = some o := fun B o ho hB => (hg5.block B (Array.getElem?_eq_some_iff.1 ho).1 (by simpa using hB)).trans ho
      rw [hW5]
      clear hW5
      have k2 : W5.heap[w.heap.size + 2]? = some (.cells #[.slice av m cv] 51 (0, 0)) := same _ _ hbx (by omega)
      have k3 := same _ _ hb.fin (by omega)
      have k4 : W5.heap[w.heap.size + 4]? = some (.cells #[.int .i64 0] 32 (0, 0)) := same _ _ hb.err (by omega)
      have ks := same _ _ hs (by omega)
      have kd := same _ _ hb.dfr (by omega)
      have s0 := cell_of_block ks 0 (by simp)
      have s1 := cell_of_block ks 1 (by simp)
      have s2 := cell_of_block ks 2 (by simp)
      have l0 := cell_of_block k2 0 (by simp)
      have f0 := frozen_of_block k2 0
      have z0 := cell_of_block k3 0 (by simp)
      have z1 := cell_of_block k3 1 (by simp)
      have z2 := cell_of_block k3 2 (by simp)
      have f1 := frozen_of_block k3 0
      have f2 := frozen_of_block k3 1
      have f3 := frozen_of_block k3 2
      have e0 := cell_of_block k4 0 (by simp)
      have f4 := frozen_of_block k4 0
      simp at s0 s1 s2 l0 z0 z1 z2 e0
      have Hlow := Lib.hid hb.low
      have K2 := Lib.hid k2
      have K3 := Lib.hid k3
      have K4 := Lib.hid k4
      have KS := Lib.hid ks
      have KD := Lib.hid kd
      have HR5 := Lib.hid hr5
      have Hg5 := Lib.hid hg5
      have Hsz := Lib.hid hsz
      clear hb hbx hrow hs same hsz X1 X3 X4 X5 ha0 hp0 hS0 hlow k2 k3 k4 ks kd hr5 hg5
      gi_wp2_with fail
      gi_region
      gi_wp2_with fail
      obtain ⟨X, hX⟩ : ∃ X, (((((W5.setCell ⟨w.heap.size + 1 + 1, 0, none⟩ (.slice av m cv)).setCell ⟨w.heap.size + 1 + 1 + 1, 0, none⟩ (.int .i64 (c.potAt p M m).v)).setCell ⟨w.heap.size + 1 + 1 + 1, 1, none⟩ (.int .i64 (c.potAt p M m).lo)).setCell
        ⟨w.heap.size + 1 + 1 + 1, 2, none⟩ (.int .i64 (c.potAt p M m).hi)).setCell ⟨w.heap.size + 1 + 1 + 1 + 1, 0, none⟩ (.int .i64 0)).drew = X := ⟨_, rfl⟩
      obtain ⟨oth, x2, x3, x4, xlow⟩ := five_stores (N := w.heap.size) 51 29 32 (by omega) (by omega) (by omega) (by omega) (by omega) (by omega) K2.out K3.out K4.out hX
      rw [hX]
      clear hX
      have hsz := Hsz.out
      have xd := (oth W0.heap.size (by omega) (by omega) (by omega)).trans KD.out
      have y2 := (World.putObj_heap_other (o := .deferred none) (show w.heap.size + 1 + 1 ≠ W0.heap.size by omega)).trans x2
      have y3 := (World.putObj_heap_other (o := .deferred none) (show w.heap.size + 1 + 1 + 1 ≠ W0.heap.size by omega)).trans x3
      have y4 := (World.putObj_heap_other (o := .deferred none) (show w.heap.size + 1 + 1 + 1 + 1 ≠ W0.heap.size by omega)).trans x4
      unfold bodyPostM
      refine ⟨by simp, .inl ⟨W0.heap.size, _, rfl, run_takeDeferred xd, ?_⟩⟩
      refine ⟨by simp, .inr ⟨(fun h => (by cases h)), Fn.func 29, _, 29, #[.pointer (some ⟨w.heap.size + 1 + 1 + 1 + 1, 0, none⟩), .pointer (some ⟨w.heap.size + 1 + 1, 0, none⟩)], rfl, by simp [invoke, go_sem, enters_of Try.func29 (by kernel_rfl) rfl], fun _ _ => trivial, ?_⟩⟩
      refine (defer_idle _ (w.heap.size + 1 + 1 + 1 + 1) (w.heap.size + 1 + 1) _ (cell_of_block y4 0 (by simp)) (frozen_of_block y4 0)).mono ?_
      rintro e u' Z ⟨rfl, rfl, hZ⟩
      obtain ⟨zo, z4', zlow⟩ := leave_world (N := w.heap.size) (by omega) (by omega) (by omega) x4 hZ
      clear hZ
      have zz2 := (zo (w.heap.size + 1 + 1) (by omega) (by omega)).trans x2
      have zz3 := (zo (w.heap.size + 1 + 1 + 1) (by omega) (by omega)).trans x3
      have b0 := cell_of_block zz2 0 (by simp)
      have b1 := cell_of_block zz3 0 (by simp)
      have b2 := cell_of_block zz3 1 (by simp)
      have b3 := cell_of_block zz3 2 (by simp)
      have b4 := cell_of_block z4' 0 (by simp)
      simp at b0 b1 b2 b3 b4
      refine ⟨.tuple #[.slice av m cv, .agg #[.int .i64 (c.potAt p M m).v, .int .i64 (c.potAt p M m).lo, .int .i64 (c.potAt p M m).hi], .int .i64 0], by simp [results, Try.results16, go_sem, b0, b1, b2, b3, b4], ?_⟩
      have low5 : Below w.heap.size w W5 := Hlow.out.grown Hg5.out Hlow.out.size (fun k e => by cases e; omega)
      refine ⟨(low5.trans xlow).trans zlow, .inl ⟨rfl, _, rfl, ownsRow_same HR5.out fun g hg => ?_⟩⟩
      have f : ∀ (B : Nat) (o : Obj), W5.heap[B]? = some o → (∀ cur, o ≠ .cells cur 36 (0, 0)) → g ≠ B := fun B o ho hne e => far_row HR5.out ho hne (e ▸ hg)
      have cellsNe : ∀ (cs : Array Value) (t : TypeId), t ≠ 36 → ∀ cur, Obj.cells cs t (0, 0) ≠ .cells cur 36 (0, 0) := fun cs t ht cur e => by cases e; exact ht rfl
      have g2 := f _ _ K2.out (cellsNe _ _ (by decide))
      have g3 := f _ _ K3.out (cellsNe _ _ (by decide))
      have g4 := f _ _ K4.out (cellsNe _ _ (by decide))
      have gd := f _ _ KD.out (fun _ e => by cases e)
      exact (zo g gd g4).trans (oth g g2 g3 g4)
    · cases h
  case pan =>
    rintro rec chain W (⟨_, ⟨_, h⟩, _⟩ | ⟨hlt, h, hb⟩)
    · cases h
    · cases h
      obtain ⟨vl, hbx, hrow, hnS⟩ := hb.row
      have hD := (Array.getElem?_eq_some_iff.1 hb.loop).1
      refine ⟨by simp, .inl ⟨W0.heap.size, _, rfl, run_takeDeferred hb.dfr, ?_⟩⟩
      have y2 := (World.putObj_heap_other (o := .deferred none) (show w.heap.size + 1 + 1 ≠ W0.heap.size by omega)).trans hbx
      have y3 := (World.putObj_heap_other (o := .deferred none) (show w.heap.size + 1 + 1 + 1 ≠ W0.heap.size by omega)).trans hb.fin
      have y4 := (World.putObj_heap_other (o := .deferred none) (show w.heap.size + 1 + 1 + 1 + 1 ≠ W0.heap.size by omega)).trans hb.err
      refine ⟨by simp, .inr ⟨(fun h => (by cases h)), Fn.func 29, _, 29, #[.pointer (some ⟨w.heap.size + 1 + 1 + 1 + 1, 0, none⟩), .pointer (some ⟨w.heap.size + 1 + 1, 0, none⟩)], rfl, by simp [invoke, go_sem, enters_of Try.func29 (by kernel_rfl) rfl], fun _ _ => trivial, ?_⟩⟩
      refine (defer_caught _ (w.heap.size + 1 + 1 + 1 + 1) (w.heap.size + 1 + 1) 0 (c.errAt p M m) vl [] _ (cell_of_block y4 0 (by simp)) (frozen_of_block y4 0) (cell_of_block y2 0 (by simp)) (frozen_of_block y2 0) (by omega) (by simpa using HST.out hlt)).mono ?_
      rintro e u' Z ⟨rfl, rfl, w9, hb9, hZ⟩
      have lowY : Below w.heap.size w (W.putObj W0.heap.size (.deferred none)) := hb.low.grown (grownBy_putObj' _ _ _) hb.low.size (fun k e => by cases e; omega)
      have v2 := (hb9.block _ (Array.getElem?_eq_some_iff.1 y2).1).trans y2
      have v3 := (hb9.block _ (Array.getElem?_eq_some_iff.1 y3).1).trans y3
      have v4 := (hb9.block _ (Array.getElem?_eq_some_iff.1 y4).1).trans y4
      have far : ∀ (W : World) (b k : Nat) (v : Value) (B : Nat), B ≠ b → (W.setCell ⟨b, k, none⟩ v).heap[B]? = W.heap[B]? := fun W b k v B h => Below.heap_setCell W ⟨b, k, none⟩ v B h
      have zz2 : Z.heap[w.heap.size + 1 + 1]? = some (.cells #[.slice none 0 0] 51 (0, 0)) := by
        rw [hZ]; exact block_set 0 _ ((far _ _ _ _ _ (by omega)).trans v2)
      have zz3 : Z.heap[w.heap.size + 1 + 1 + 1]? = some (.cells #[.int .i64 0, .int .i64 0, .int .i64 0] 29 (0, 0)) := by
        rw [hZ]; exact (far _ _ _ _ _ (by omega)).trans ((far _ _ _ _ _ (by omega)).trans v3)
      have zz4 : Z.heap[w.heap.size + 1 + 1 + 1 + 1]? = some (.cells #[.int .i64 (c.errAt p M m)] 32 (0, 0)) := by
        rw [hZ]; exact (far _ _ _ _ _ (by omega)).trans (block_set 0 _ v4)
      have lowZ : Below w.heap.size w Z := by
        rw [hZ]; exact ((lowY.trans (hb9.mono lowY.size)).setCell (p := ⟨w.heap.size + 1 + 1 + 1 + 1, 0, none⟩) (by simp; omega) _).setCell (p := ⟨w.heap.size + 1 + 1, 0, none⟩) (by simp; omega) _
      clear hZ hb9 v2 v3 v4 y2 y3 y4
      have b0 := cell_of_block zz2 0 (by simp)
      have b1 := cell_of_block zz3 0 (by simp)
      have b2 := cell_of_block zz3 1 (by simp)
      have b3 := cell_of_block zz3 2 (by simp)
      have b4 := cell_of_block zz4 0 (by simp)
      simp at b0 b1 b2 b3 b4
      exact ⟨.tuple #[.slice none 0 0, .agg #[.int .i64 0, .int .i64 0, .int .i64 0], .int .i64 (c.errAt p M m)], by simp [results, Try.results16, go_sem, b0, b1, b2, b3, b4], lowZ, .inr ⟨hlt, rfl⟩⟩
end Go.Proofs.Yticgkhoidgkejaa

namespace Go.Proofs.Yticgkhoidgkejaa
open Go.RowKit

/-- how many amounts can be drawn -/
def Crv.stop (c : Crv) (p : Pot3) (M : Nat → Int) : Nat → Nat
  | 0 => 0
  | k + 1 => if c.stop p M k = k ∧ c.errAt p M k = 0 then k + 1 else c.stop p M k
theorem Crv.stop_le (c : Crv) (p : Pot3) (M : Nat → Int) : ∀ k, c.stop p M k ≤ k
  | 0 => Nat.le_refl _
  | k + 1 => by unfold Crv.stop; have := c.stop_le p M k; split <;> omega
theorem Crv.stop_lt (c : Crv) (p : Pot3) (M : Nat → Int) : ∀ k j, j < c.stop p M k → c.errAt p M j = 0
  | 0, j, h => by simp [Crv.stop] at h
  | k + 1, j, h => by
    unfold Crv.stop at h
    split at h
    · rename_i hc
      by_cases e : j = k
      · rw [e]; exact hc.2
      · exact c.stop_lt p M k j (by rw [hc.1]; omega)
    · exact c.stop_lt p M k j h
theorem Crv.stop_bad (c : Crv) (p : Pot3) (M : Nat → Int) : ∀ k, c.stop p M k < k → c.errAt p M (c.stop p M k) ≠ 0
  | 0, h => by simp at h
  | k + 1, h => by
    unfold Crv.stop at h ⊢
    split
    · rename_i hc; simp only [hc, and_self, if_true] at h; omega
    · rename_i hc
      simp only [hc, if_false] at h
      by_cases e : c.stop p M k = k
      · rw [e]; exact fun hx => hc ⟨e, hx⟩
      · exact c.stop_bad p M k (by have := c.stop_le p M k; omega)

/-- the error of a run -/
def runErr (m : Nat) (c : Crv) (p : Pot3) (M : Nat → Int) (k : Nat) : Int :=
  if earlyE c.n m c.L c.A c.B p.v p.lo p.hi k ≠ 0 then earlyE c.n m c.L c.A c.B p.v p.lo p.hi k else if c.stop p M k < k then c.errAt p M (c.stop p M k) else 0

theorem potAt_ok {c : Crv} {p : Pot3} {M : Nat → Int} {k : Nat} (g : Good c.n c.L c.A c.B) (hp : p.ok) : ∀ j, j ≤ c.stop p M k → (c.potAt p M j).ok
  | 0, _ => hp
  | j + 1, h => (next_ok g (potAt_ok (k := k) g hp j (by omega)) (c.stop_lt p M k j (by omega))).1

theorem early_zero {n m : Nat} {L A B : Nat → Int} {v lo hi : Int} {k : Nat} (h : earlyE n m L A B v lo hi k = 0) : k ≤ 64 ∧ m = n ∧ Good n L A B ∧ 0 ≤ lo ∧ lo ≤ hi ∧ hi ≤ v ∧ v ≤ 1073741824 := by
  unfold earlyE at h
  split at h
  · omega
  · rename_i hk
    split at h
    · rename_i hc
      simp only [Bool.and_eq_true] at hc
      obtain ⟨h1, h2⟩ := hc
      obtain ⟨e, g⟩ := good_of h1
      simp only [potB, Bool.and_eq_true] at h2
      have a := inB_t.1 h2.1
      have b := spanB_t.1 h2.2
      exact ⟨by omega, e, g, by omega, by omega, by omega, by omega⟩
    · omega

theorem ints_some {w : World} {a : Option Addr} {k : Nat} {M : Nat → Int} (h : IntsAt w a k M) (hw : 0 < w.heap.size) : ∃ b off, (0 < k → a = some ⟨b, off, none⟩) ∧ b < w.heap.size ∧ ∀ i, i < k → w.cell? ⟨b, off + i, none⟩ = some (.int .i64 (M i)) := by
  rcases h with h | ⟨b, off, rfl, hlt, hc⟩
  · exact ⟨0, 0, by omega, hw, fun i hi => by omega⟩
  · exact ⟨b, off, fun _ => rfl, hlt, hc⟩

section
variable (aL aV aM : Option Addr) (m cL cV k cM : Nat) (c : Crv) (p : Pot3) (M : Nat → Int) (w : World) (hn : c.n ≤ 1000000000000) (hm : m ≤ 1000000000000) (hk : k ≤ 1000000000000) (hL : IntsAt w aL c.n c.L) (hV : SpansAt w aV m c.A c.B) (hM : IntsAt w aM k M)
include hn hm hk hL hV hM

theorem run_err (x : Int) (hx : runErr m c p M k = x) (h0 : x ≠ 0) :
    Calls Try.prog 16 #[.agg #[.slice aL c.n cL, .slice aV m cV], .agg #[.int .i64 p.v, .int .i64 p.lo, .int .i64 p.hi], .slice aM k cM] w fun e w' =>
      e = .returned (.tuple #[.slice none 0 0, .agg #[.int .i64 0, .int .i64 0, .int .i64 0], .int .i64 x]) ∧ Below w.heap.size w w' := by
  unfold runErr at hx
  split at hx
  · exact run_early aL aV aM c.n m cL cV k cM c.L c.A c.B p.v p.lo p.hi w hn hm hk hL hV x hx (by simpa using h0)
  · rename_i hE
    have hE : earlyE c.n m c.L c.A c.B p.v p.lo p.hi k = 0 := Decidable.byContradiction hE
    split at hx
    · rename_i hs
      obtain ⟨k64, rfl, g, p0, p1, p2, p3⟩ := early_zero hE
      have two := g.two
      rcases hL with h | ⟨b, off, rfl, hb, hls⟩
      · omega
      rcases hV with h | ⟨bv, offv, rfl, hbv, hvs⟩
      · omega
      obtain ⟨bm, offm, ha, hbm, hms⟩ := ints_some hM (by omega)
      have := runMain_in 3 aM b off bv offv cL cV bm offm k cM c p M (c.stop p M k) (by omega) hn k64 (c.stop_le p M k) g (potAt_ok g ⟨p0, p1, p2, p3⟩) (fun j hj => c.stop_lt p M k j hj) (c.stop_bad p M k) ha w ⟨hb, hbv, hls, hvs⟩ hbm hms hE
      refine (callsIn_wide.1 this).mono ?_
      rintro e w' ⟨h1, ⟨h2, _⟩ | ⟨_, h2⟩⟩
      · omega
      · exact ⟨by rw [h2, hx], h1⟩
    · omega

omit hk in
theorem run_ok (hx : runErr m c p M k = 0) :
    Calls Try.prog 16 #[.agg #[.slice aL c.n cL, .slice aV m cV], .agg #[.int .i64 p.v, .int .i64 p.lo, .int .i64 p.hi], .slice aM k cM] w fun e w' =>
      ∃ v, e = .returned (.tuple #[v, .agg #[.int .i64 (c.potAt p M k).v, .int .i64 (c.potAt p M k).lo, .int .i64 (c.potAt p M k).hi], .int .i64 0]) ∧ w'.ownsRow w.heap.size 36 3 v k (c.outs p M k) ∧ Below w.heap.size w w' := by
  unfold runErr at hx
  split at hx
  · rename_i h; exact absurd hx h
  · rename_i hE
    have hE : earlyE c.n m c.L c.A c.B p.v p.lo p.hi k = 0 := Decidable.byContradiction hE
    split at hx
    · rename_i hs; exact absurd hx (c.stop_bad p M k hs)
    · rename_i hs
      obtain ⟨k64, rfl, g, p0, p1, p2, p3⟩ := early_zero hE
      have two := g.two
      rcases hL with h | ⟨b, off, rfl, hb, hls⟩
      · omega
      rcases hV with h | ⟨bv, offv, rfl, hbv, hvs⟩
      · omega
      obtain ⟨bm, offm, ha, hbm, hms⟩ := ints_some hM (by omega)
      have := runMain_in 3 aM b off bv offv cL cV bm offm k cM c p M (c.stop p M k) (by omega) hn k64 (c.stop_le p M k) g (potAt_ok g ⟨p0, p1, p2, p3⟩) (fun j hj => c.stop_lt p M k j hj) (c.stop_bad p M k) ha w ⟨hb, hbv, hls, hvs⟩ hbm hms hE
      refine (callsIn_wide.1 this).mono ?_
      rintro e w' ⟨h1, ⟨_, v, h2, h3⟩ | ⟨h2, _⟩⟩
      · exact ⟨v, h2, h3, h1⟩
      · omega
end

theorem run_zero {m : Nat} {c : Crv} {p : Pot3} {M : Nat → Int} {k : Nat} (hx : runErr m c p M k = 0) : earlyE c.n m c.L c.A c.B p.v p.lo p.hi k = 0 ∧ k ≤ 64 ∧ m = c.n ∧ Good c.n c.L c.A c.B ∧ p.ok ∧ (∀ j, j < k → c.errAt p M j = 0) ∧ ∀ j, j ≤ k → (c.potAt p M j).ok := by
  unfold runErr at hx
  split at hx
  · rename_i h; exact absurd hx h
  · rename_i hE
    have hE : earlyE c.n m c.L c.A c.B p.v p.lo p.hi k = 0 := Decidable.byContradiction hE
    split at hx
    · rename_i hs; exact absurd hx (c.stop_bad p M k hs)
    · rename_i hs
      obtain ⟨k64, e, g, p0, p1, p2, p3⟩ := early_zero hE
      have e2 : c.stop p M k = k := by have := c.stop_le p M k; omega
      exact ⟨hE, k64, e, g, ⟨p0, p1, p2, p3⟩, fun j hj => c.stop_lt p M k j (by omega), fun j hj => potAt_ok (k := k) g ⟨p0, p1, p2, p3⟩ j (by omega)⟩
end Go.Proofs.Yticgkhoidgkejaa

namespace Go.Proofs.Yticgkhoidgkejaa
open Go.RowKit

def sampC : Crv := ⟨4, fun i => [0, 1000, 5000, 10000].getD i 0, fun i => [0, 5000, 8000, 10000].getD i 0, fun i => [0, 5200, 8100, 10000].getD i 0⟩
def sampP : Pot3 := ⟨10000, 1000, 1000⟩

def Sampled (w : World) (e : Ending) (w' : World) : Prop :=
  ∃ b bv, e = .returned (.tuple #[.agg #[.slice (some ⟨b, 0, none⟩) 4 4, .slice (some ⟨bv, 0, none⟩) 4 4], .agg #[.int .i64 10000, .int .i64 1000, .int .i64 1000]]) ∧ Pts w' b 0 bv 0 4 sampC.L sampC.A sampC.B ∧ Below w.heap.size w w'

set_option maxHeartbeats 1000000 in
theorem sample_any (w : World) : Calls Try.prog 4 #[] w (Sampled w) := by
  go_enter Try.func4, Try.ntmps4
  go_wp2
  obtain ⟨z0, z1, z2, z3, z4, z5⟩ := five_blocks w (.cells #[.slice (some ⟨w.heap.size + 1 + 1, 0, none⟩) 4 4, .slice (some ⟨w.heap.size + 1 + 1 + 1, 0, none⟩) 4 4] 25) (.cells #[.int .i64 10000, .int .i64 1000, .int .i64 1000] 29) (.cells #[.int .i64 0, .int .i64 1000, .int .i64 5000, .int .i64 10000] 3) (.cells #[.int .i64 0, .int .i64 0, .int .i64 5000, .int .i64 5200, .int .i64 8000, .int .i64 8100, .int .i64 10000, .int .i64 10000] 27)
    (.cells #[.slice (some ⟨w.heap.size + 1 + 1, 0, none⟩) 4 4, .slice (some ⟨w.heap.size + 1 + 1 + 1, 0, none⟩) 4 4] 25)
  refine bodyPost_ret (v := .tuple #[.agg #[.slice (some ⟨w.heap.size + 1 + 1, 0, none⟩) 4 4, .slice (some ⟨w.heap.size + 1 + 1 + 1, 0, none⟩) 4 4], .agg #[.int .i64 10000, .int .i64 1000, .int .i64 1000]]) (by simp [results, Try.results4, go_sem]) rfl ?_
  refine ⟨w.heap.size + 1 + 1, w.heap.size + 1 + 1 + 1, rfl, ⟨by rw [z0]; omega, by rw [z0]; omega, ?_, ?_⟩, ((((((Below.refl _ w).alloc (Nat.le_refl _) _).alloc (by simp) _).alloc (by simp; omega) _).alloc (by simp; omega) _).alloc (by simp; omega) _)⟩
  · intro i hi
    match i, hi with
    | 0, _ => exact cell_of_block z3 0 (by simp)
    | 1, _ => exact cell_of_block z3 1 (by simp)
    | 2, _ => exact cell_of_block z3 2 (by simp)
    | 3, _ => exact cell_of_block z3 3 (by simp)
    | i + 4, h => exact absurd h (by omega)
  · intro i hi
    match i, hi with
    | 0, _ => exact ⟨cell_of_block z4 0 (by simp), cell_of_block z4 1 (by simp)⟩
    | 1, _ => exact ⟨cell_of_block z4 2 (by simp), cell_of_block z4 3 (by simp)⟩
    | 2, _ => exact ⟨cell_of_block z4 4 (by simp), cell_of_block z4 5 (by simp)⟩
    | 3, _ => exact ⟨cell_of_block z4 6 (by simp), cell_of_block z4 7 (by simp)⟩
    | i + 4, h => exact absurd h (by omega)

/-- what returns, from run to run -/
def cycF (F K s : Int) : Nat → Int
  | 0 => s
  | i + 1 => upI ((cycF F K s i + F) * K) 1000
/-- the greatest one before run j -/
def cycM (F K s : Int) : Nat → Int
  | 0 => 0
  | i + 1 => cycF F K s i

theorem cycF_next {F K f : Int} (hf : 0 ≤ f) (hf2 : f ≤ 1073741824) (hF : 0 ≤ F) (hF2 : F ≤ 1073741824) (hK : 0 ≤ K) (hK2 : K ≤ 999) : 0 ≤ (f + F) * K ∧ (f + F) * K ≤ 2147483648 * 999 ∧ 0 ≤ upI ((f + F) * K) 1000 ∧ upI ((f + F) * K) 1000 ≤ 2147483648 := by
  have h0 : 0 ≤ (f + F) * K := Int.mul_nonneg (by omega) hK
  have h1 : (f + F) * K ≤ 2147483648 * 999 := Int.mul_le_mul (by omega) hK2 hK (by omega)
  exact ⟨h0, h1, upI_nonneg h0 (by omega), upI_le (by omega) (by omega)⟩

theorem cyc_bound {F K s l : Int} (hs : 0 ≤ s) (hs2 : s ≤ 1073741824) (hl : l ≤ 1073741824) (hF : 0 ≤ F) (hF2 : F ≤ 1073741824) (hK : 0 ≤ K) (hK2 : K ≤ 999) : ∀ j : Nat, (∀ t, t < j → cycF F K s t ≤ l ∧ cycF F K s t < cycF F K s (t + 1)) →
    0 ≤ cycF F K s j ∧ cycF F K s j ≤ 2147483648 ∧ 0 ≤ cycM F K s j ∧ cycM F K s j ≤ cycF F K s j
  | 0, _ => ⟨hs, by show s ≤ _; omega, Int.le_refl _, hs⟩
  | j + 1, h => by
    have ih := cyc_bound hs hs2 hl hF hF2 hK hK2 j fun t ht => h t (by omega)
    have hj := h j (by omega)
    have := cycF_next ih.1 (by omega) hF hF2 hK hK2
    exact ⟨this.2.2.1, this.2.2.2, ih.1, by show cycF F K s j ≤ cycF F K s (j + 1); omega⟩

attribute [local go_sem] gw_cell gw_frozen gw_size
attribute [local go_sem ↓] run_maxZ

def cycErr (fl fh kl kh s l : Int) : Int := if spanB fl fh 0 1073741824 && spanB kl kh 0 999 then (if inB s 0 1073741824 && inB l 0 1073741824 then 0 else 2) else 1

/-- what Cycle returns at run i -/
def cycRun (F K s l : Int) (i : Nat) : Int := if l < cycF F K s i then i else -1

theorem gw_gw (w : World) (x y : Grew) : ∃ z, gw (gw w x) y = gw w z := ⟨⟨x.bs ++ y.bs, y.d⟩, by simp [gw]⟩

set_option maxRecDepth 100000 in
set_option maxHeartbeats 4000000 in
theorem cycle_ok (fl fh kl kh s l : Int) (w : World) (hE : cycErr fl fh kl kh s l = 0) (i : Nat) (hgo : ∀ j, j < i → cycF fh kh s j ≤ l ∧ cycF fh kh s j < cycF fh kh s (j + 1)) (hend : l < cycF fh kh s i ∨ cycF fh kh s (i + 1) ≤ cycF fh kh s i) :
    Calls Try.prog 8 #[.agg #[.int .i64 fl, .int .i64 fh], .agg #[.int .i64 kl, .int .i64 kh], .int .i64 s, .int .i64 l] w fun e w' =>
      e = .returned (.tuple #[.int .i64 (cycF fh kh s i), .int .i64 (cycRun fh kh s l i), .int .i64 0]) ∧ Below w.heap.size w w' := by
  obtain ⟨a1, a2, a3, a4⟩ : spanB fl fh 0 1073741824 = true ∧ spanB kl kh 0 999 = true ∧ inB s 0 1073741824 = true ∧ inB l 0 1073741824 = true := by
    unfold cycErr at hE
    split at hE
    · rename_i h1
      split at hE
      · rename_i h2
        simp only [Bool.and_eq_true] at h1 h2
        exact ⟨h1.1, h1.2, h2.1, h2.2⟩
      · omega
    · omega
  clear hE
  have b1 := spanB_t.1 a1
  have b2 := spanB_t.1 a2
  have b3 := inB_t.1 a3
  have b4 := inB_t.1 a4
  have A1 := Lib.hid a1; clear a1
  have A2 := Lib.hid a2; clear a2
  have A3 := Lib.hid a3; clear a3
  have A4 := Lib.hid a4; clear a4
  have GO := Lib.hid hgo; clear hgo
  have EN := Lib.hid hend; clear hend
  go_enter Try.func8, Try.ntmps8
  go_wp2_with fail
  refine (Calls.grown (isSpan_b _ _ _ _ _ A1.out)).mono ?_
  rintro e w1 ⟨rfl, x, rfl⟩
  go_wp2_with fail
  refine (Calls.gw_of (isSpan_b _ _ _ _ _ A2.out)).mono ?_
  rintro e w1 ⟨rfl, y, rfl⟩
  go_wp2_with (first | (go_at_call 18; refine (within_b _ _ _ _ A3.out).mono ?_; rintro e w1 ⟨rfl, rfl⟩; clear A3) | (go_at_call 18; refine (within_b _ _ _ _ A4.out).mono ?_; rintro e w1 ⟨rfl, rfl⟩; clear A4))
  go_loop [8, 9, 11] (fun m r f => ∃ j : Nat, j ≤ i ∧ m = .int .i64 (cycM fh kh s j) ∧ r = .int .i64 j ∧ f = .int .i64 (cycF fh kh s j)) (fun _ r _ => i - (intOf r).toNat)
  case atStart => exact ⟨0, Nat.zero_le _, rfl, rfl, rfl⟩
  case round =>
    obtain ⟨j, hj, rfl, rfl, rfl⟩ := hrel
    have bd := cyc_bound (l := l) b3.1 b3.2 b4.2 (by omega : 0 ≤ fh) b1.2.2 (by omega : 0 ≤ kh) b2.2.2 j (fun t ht => GO.out t (by omega))
    have hji : j ≤ 2147483648 := by
      have : ∀ t : Nat, t ≤ j → (t : Int) ≤ cycF fh kh s t := fun t => by
        induction t with
        | zero => intro _; exact b3.1
        | succ t ih => intro ht; have := ih (by omega); have := (GO.out t (by omega)).2; omega
      have := this j (Nat.le_refl _)
      omega
    have e1 : maxZ (cycM fh kh s j) (cycF fh kh s j) = cycF fh kh s j := by rw [maxZ_eq]; omega
    by_cases hlim : cycF fh kh s j ≤ l
    · have nx := cycF_next bd.1 (by omega : cycF fh kh s j ≤ 1073741824) (by omega : 0 ≤ fh) b1.2.2 (by omega : 0 ≤ kh) b2.2.2
      have HU := Lib.hid (show cycF fh kh s (j + 1) = upI ((cycF fh kh s j + fh) * kh) 1000 from rfl)
      have HM := Lib.hid (show cycM fh kh s (j + 1) = cycF fh kh s j from rfl)
      by_cases hji' : j < i
      · have hlt := (GO.out j hji').2
        rw [HU.out] at hlt
        go_wp2_with (go_at_call 21; refine (up_any _ _ _ (by omega) (by omega) (by omega) (by omega)).mono ?_; rintro e w1 ⟨rfl, rfl⟩)
        go_round
        case rel => exact ⟨j + 1, hji', by rw [HM.out], by go_num, by rw [HU.out]⟩
        case measure => simp [intOf]; omega
      · obtain rfl : j = i := by omega
        have hge : upI ((cycF fh kh s j + fh) * kh) 1000 ≤ cycF fh kh s j := by
          rcases EN.out with h | h
          · omega
          · exact h
        have HR := Lib.hid (show cycRun fh kh s l j = -1 by unfold cycRun; rw [if_neg (by omega)])
        go_wp2_with (go_at_call 21; refine (up_any _ _ _ (by omega) (by omega) (by omega) (by omega)).mono ?_; rintro e w1 ⟨rfl, rfl⟩)
        go_ret3
        exact ⟨by rw [HR.out]; rfl, (((Below.refl _ w).alloc (Nat.le_refl _) _).alloc (by simp) _).gw y⟩
    · obtain rfl : j = i := by
        rcases Nat.lt_or_ge j i with h | h
        · have := (GO.out j h).1; omega
        · omega
      have HR := Lib.hid (show cycRun fh kh s l j = j by unfold cycRun; rw [if_pos (by omega)])
      go_wp2_with fail
      go_ret3
      exact ⟨by rw [HR.out]; rfl, (((Below.refl _ w).alloc (Nat.le_refl _) _).alloc (by simp) _).gw y⟩
end Go.Proofs.Yticgkhoidgkejaa

namespace Go.Proofs.Yticgkhoidgkejaa
open Go.RowKit

theorem samp_err : runErr 4 sampC sampP (fun _ => 1000) 2 = 0 := by decide
theorem samp_pot : sampC.potAt sampP (fun _ => 1000) 2 = ⟨8000, 55, 653⟩ := by rfl
theorem samp_outs : sampC.outs sampP (fun _ => 1000) 2 = [.int .i64 1000, .int .i64 266, .int .i64 520, .int .i64 1000, .int .i64 34, .int .i64 425] := by rfl

theorem row_cells {W : World} {base n : Nat} {e : TypeId} {size : Nat} {g cap : Nat} {xs : List Value} (h : W.ownsRow base e size (.slice (some ⟨g, 0, none⟩) n cap) n xs) (i : Nat) (u : Value) (hu : xs[i]? = some u) : W.cell? ⟨g, i, none⟩ = some u := by
  have := h.cells (g := g) rfl i u hu
  rw [← this]
  congr 1
  unfold Addr.add
  split
  · rename_i h0; rw [h0]
  · simp

attribute [local go_sem] gw_cell gw_frozen gw_size

set_option maxRecDepth 100000 in
set_option maxHeartbeats 4000000 in
theorem alive_any (w : World) : Calls Try.prog 11 #[] w fun e w' => e = .returned (.bool true) ∧ Below w.heap.size w w' := by
  go_enter Try.func11, Try.ntmps11
  go_wp2_with fail
  refine (sample_any w).mono ?_
  rintro e w1 ⟨b, bv, rfl, hP, hb1⟩
  have HP := Lib.hid hP; clear hP
  have HB := Lib.hid hb1; clear hb1
  go_wp2_with fail
  have hB2 : Below w1.heap.size w1 (((w1.alloc (.cells #[.slice (some ⟨b, 0, none⟩) 4 4, .slice (some ⟨bv, 0, none⟩) 4 4] 25)).alloc (.cells #[.int .i64 10000, .int .i64 1000, .int .i64 1000] 29)).alloc (.cells #[.int .i64 1000, .int .i64 1000] 3)) := (((Below.refl _ w1).alloc (Nat.le_refl _) _).alloc (by simp) _).alloc (by simp; omega) _
  have hP2 := HP.out.below hB2
  have hI : IntsAt (((w1.alloc (.cells #[.slice (some ⟨b, 0, none⟩) 4 4, .slice (some ⟨bv, 0, none⟩) 4 4] 25)).alloc (.cells #[.int .i64 10000, .int .i64 1000, .int .i64 1000] 29)).alloc (.cells #[.int .i64 1000, .int .i64 1000] 3)) (some ⟨w1.heap.size + 1 + 1, 0, none⟩) 2 (fun _ => 1000) := by
    refine .inr ⟨_, _, rfl, by simp, fun i hi => ?_⟩
    match i, hi with
    | 0, _ => simp [go_sem]
    | 1, _ => simp [go_sem]
    | i + 2, h => exact absurd h (by omega)
  refine (run_ok (some ⟨b, 0, none⟩) (some ⟨bv, 0, none⟩) (some ⟨w1.heap.size + 1 + 1, 0, none⟩) 4 4 4 2 2 sampC sampP (fun _ => 1000) _ (by decide) (by decide) (.inr ⟨b, 0, rfl, hP2.lb, hP2.ls⟩) (.inr ⟨bv, 0, rfl, hP2.vb, hP2.vs⟩) hI samp_err).mono ?_
  rintro e w2 ⟨v, rfl, hown, hb2⟩
  rw [samp_outs] at hown
  rw [samp_pot]
  obtain ⟨g, cap, rfl⟩ := ownsRow_succ hown
  have c0 := row_cells hown 0 _ rfl
  have c1 := row_cells hown 1 _ rfl
  have c2 := row_cells hown 2 _ rfl
  have c3 := row_cells hown 3 _ rfl
  have c4 := row_cells hown 4 _ rfl
  have c5 := row_cells hown 5 _ rfl
  have hg := World.block_lt_of_cell? w2 _ c0
  have HB2 := Lib.hid (HB.out.trans ((hB2.trans (hb2.mono hB2.size)).mono HB.out.size)); clear hB2 hP2 hI hown hb2
  go_wp2_with fail
  have hC := cycle_ok 1000 1000 100 250 0 400 (w2.alloc (.cells #[.int .i64 8000, .int .i64 55, .int .i64 653] 29)) (by decide) 5 (by decide) (by decide)
  rw [show cycF 1000 250 0 5 = 334 by decide, show cycRun 1000 250 0 400 5 = -1 by decide] at hC
  refine (Calls.grown hC).mono ?_
  clear hC
  rintro e w3 ⟨rfl, x, rfl⟩
  go_wp2_with fail
  go_ret
  exact ⟨rfl, (HB2.out.alloc HB2.out.size _).gw x⟩
end Go.Proofs.Yticgkhoidgkejaa

namespace Go.Proofs.Yticgkhoidgkejaa
open Go.RowKit

attribute [local go_sem] gw_cell gw_frozen gw_size

def runsI (t w l : Int) : Int := if w = 0 then -1 else (t - l) / w

set_option maxHeartbeats 1000000 in
theorem wear1_any (t w l : Int) (B : Nat) (W : World) (hc : W.cell? ⟨B, 0, none⟩ = some (.int .i64 l)) (h0 : 0 ≤ l) (h1 : l ≤ t) (h2 : t ≤ 1073741824) (h3 : 0 ≤ w) (h4 : w ≤ 1073741824) :
    Calls Try.prog 22 #[.int .i64 t, .int .i64 w, .pointer (some ⟨B, 0, none⟩)] W fun e W' => e = .returned (.int .i64 (runsI t w l)) ∧ W = W' := by
  by_cases hw : w = 0
  · have HR := Lib.hid (show runsI t w l = -1 by unfold runsI; rw [if_pos hw])
    have hb : (w == 0) = true := by simpa using hw
    clear hw
    go_enter Try.func22, Try.ntmps22
    go_wp2
    go_ret
    exact ⟨by rw [HR.out]; rfl, rfl⟩
  · have HR := Lib.hid (show runsI t w l = (t - l) / w by unfold runsI; rw [if_neg hw])
    have hb : (w == 0) = false := by simpa using hw
    go_enter Try.func22, Try.ntmps22
    go_wp2
    go_ret
    exact ⟨by rw [HR.out]; rfl, rfl⟩

def wearErr (tl th wl wh l : Int) : Int := if spanB tl th 0 1073741824 && spanB wl wh 0 1073741824 then (if inB l 0 1073741824 then (if tl < l then 12 else 0) else 2) else 1

set_option maxRecDepth 100000 in
set_option maxHeartbeats 2000000 in
theorem wear_any (tl th wl wh l : Int) (w : World) (x : Int) (hE : wearErr tl th wl wh l = x) :
    Calls Try.prog 9 #[.agg #[.int .i64 tl, .int .i64 th], .agg #[.int .i64 wl, .int .i64 wh], .int .i64 l] w fun e w' =>
      e = .returned (.tuple #[.int .i64 (if x = 0 then runsI tl wh l else 0), .int .i64 (if x = 0 then runsI th wl l else 0), .int .i64 x]) ∧ Below w.heap.size w w' := by
  have hmf : ∀ (fn : Fn) (first cap : Array Value) (w : World), (Instr.makeFunc fn first cap).run Try.prog w = .ok (.func fn first cap) w := fun _ _ _ _ => rfl
  cases a1 : spanB tl th 0 1073741824 with
  | false =>
    obtain rfl : x = 1 := by rw [← hE]; unfold wearErr; rw [a1]; rfl
    clear hE
    have A1 := Lib.hid a1; clear a1
    go_enter Try.func9, Try.ntmps9
    go_wp2_with fail
    refine (Calls.grown (isSpan_b _ _ _ _ _ A1.out)).mono ?_
    rintro e w1 ⟨rfl, x, rfl⟩
    go_wp2_with fail
    go_ret3
    exact ⟨rfl, (((((Below.refl _ w).alloc (Nat.le_refl _) _).alloc (by simp) _).alloc (by simp; omega) _).gw x)⟩
  | true =>
    cases a2 : spanB wl wh 0 1073741824 with
    | false =>
      obtain rfl : x = 1 := by rw [← hE]; unfold wearErr; rw [a1, a2]; rfl
      clear hE
      have A1 := Lib.hid a1; clear a1
      have A2 := Lib.hid a2; clear a2
      go_enter Try.func9, Try.ntmps9
      go_wp2_with fail
      refine (Calls.grown (isSpan_b _ _ _ _ _ A1.out)).mono ?_
      rintro e w1 ⟨rfl, x, rfl⟩
      go_wp2_with fail
      refine (Calls.gw_of (isSpan_b _ _ _ _ _ A2.out)).mono ?_
      rintro e w1 ⟨rfl, y, rfl⟩
      go_wp2_with fail
      go_ret3
      exact ⟨rfl, (((((Below.refl _ w).alloc (Nat.le_refl _) _).alloc (by simp) _).alloc (by simp; omega) _).gw y)⟩
    | true =>
      have b1 := spanB_t.1 a1
      have b2 := spanB_t.1 a2
      have A1 := Lib.hid a1
      have A2 := Lib.hid a2
      cases a3 : inB l 0 1073741824 with
      | false =>
        obtain rfl : x = 2 := by rw [← hE]; unfold wearErr; rw [a1, a2, a3]; rfl
        have A3 := Lib.hid a3; clear a1 a2 a3 hE
        go_enter Try.func9, Try.ntmps9
        go_wp2_with fail
        refine (Calls.grown (isSpan_b _ _ _ _ _ A1.out)).mono ?_
        rintro e w1 ⟨rfl, x, rfl⟩
        go_wp2_with fail
        refine (Calls.gw_of (isSpan_b _ _ _ _ _ A2.out)).mono ?_
        rintro e w1 ⟨rfl, y, rfl⟩
        go_wp2_with fail
        refine (within_b _ _ _ _ A3.out).mono ?_
        rintro e w1 ⟨rfl, rfl⟩
        go_wp2_with fail
        go_ret3
        exact ⟨rfl, (((((Below.refl _ w).alloc (Nat.le_refl _) _).alloc (by simp) _).alloc (by simp; omega) _).gw y)⟩
      | true =>
        have b3 := inB_t.1 a3
        by_cases hl : tl < l
        · obtain rfl : x = 12 := by rw [← hE]; unfold wearErr; rw [a1, a2, a3, if_pos hl]; rfl
          have A3 := Lib.hid a3; clear a1 a2 a3 hE
          go_enter Try.func9, Try.ntmps9
          go_wp2_with fail
          refine (Calls.grown (isSpan_b _ _ _ _ _ A1.out)).mono ?_
          rintro e w1 ⟨rfl, x, rfl⟩
          go_wp2_with fail
          refine (Calls.gw_of (isSpan_b _ _ _ _ _ A2.out)).mono ?_
          rintro e w1 ⟨rfl, y, rfl⟩
          go_wp2_with fail
          refine (within_b _ _ _ _ A3.out).mono ?_
          rintro e w1 ⟨rfl, rfl⟩
          go_wp2_with fail
          go_ret3
          exact ⟨rfl, (((((Below.refl _ w).alloc (Nat.le_refl _) _).alloc (by simp) _).alloc (by simp; omega) _).gw y)⟩
        · obtain rfl : x = 0 := by rw [← hE]; unfold wearErr; rw [a1, a2, a3, if_neg hl]; rfl
          have A3 := Lib.hid a3; clear a1 a2 a3 hE
          go_enter Try.func9, Try.ntmps9
          go_wp2_with fail
          refine (Calls.grown (isSpan_b _ _ _ _ _ A1.out)).mono ?_
          rintro e w1 ⟨rfl, x, rfl⟩
          go_wp2_with fail
          refine (Calls.gw_of (isSpan_b _ _ _ _ _ A2.out)).mono ?_
          rintro e w1 ⟨rfl, y, rfl⟩
          go_wp2_with fail
          refine (within_b _ _ _ _ A3.out).mono ?_
          rintro e w1 ⟨rfl, rfl⟩
          go_wp2_with fail
          refine wp_region_gw2 (by kernel_rfl) (by kernel_rfl) ?_
          repeat (go_big_quiet_step ((go_at_call 22; exact Calls.gw_of_same (wear1_any _ _ l _ _ (by simp [go_sem]) (by omega) (by omega) (by omega) (by omega) (by omega)))))
          refine wpQuiet_nil ?_
          rintro _ ⟨z, rfl⟩
          go_wp2_with fail
          go_ret3
          exact ⟨rfl, (((((Below.refl _ w).alloc (Nat.le_refl _) _).alloc (by simp) _).alloc (by simp; omega) _).gw z)⟩

def innerI (lo hi b : Int) : Int := lo + b % (hi - lo + 1)
theorem innerI_range {lo hi b : Int} (h : lo ≤ hi) : lo ≤ innerI lo hi b ∧ innerI lo hi b ≤ hi := by
  unfold innerI
  have h1 := Int.emod_nonneg b (show hi - lo + 1 ≠ 0 by omega)
  have h2 := Int.emod_lt_of_pos b (show 0 < hi - lo + 1 by omega)
  omega

end Go.Proofs.Yticgkhoidgkejaa
