/- Contracts of the function that Run defers. Contract of the iterator of (*still).all. Contract of still.Run. Plain words: a round of Run has ended. Plain laws: lines through points rise; what is drawn leaves a valid pot. No conditions beyond each theorem's own. -/
import Derived.Test.YtfefmgadfklgmaaGd
import Derived.Test.YtfefmgadfklgmaaGz
import Derived.RangeFuncNested
import Derived.RangeFuncBound
import Derived.RangeFuncCalls
import Derived.RangeFuncLeaves
import Derived.Shelf.Abstract
import Derived.Shelf.RegionOpen
import Derived.OwnWalkIn
import Derived.TacticsInMore
import Derived.LoopNIn
import Derived.LoopIn
import Derived.RangeFuncBox
import Derived.Maps.AppendAt
import Derived.RegionTactic
set_option linter.unusedVariables false
set_option linter.unusedSimpArgs false
set_option linter.unusedSectionVars false
set_option linter.constructorNameAsVariable false
namespace Go.Proofs.Ytfefmgadfklgmaa.L4
open Go.RowKit

set_option maxRecDepth 100000 in
set_option maxHeartbeats 1000000 in
theorem defer_idle (nn be bl : Nat) (w : World) (he : w.cell? ⟨be, 0, none⟩ = some (.int .i64 0)) (hf : w.frozen? ⟨be, 0, none⟩ = false) :
    CallsDIn Fence.wide nn Try.prog 36 #[.pointer (some ⟨be, 0, none⟩), .pointer (some ⟨bl, 0, none⟩)] .returning w fun e u' w' => e = .returned (.tuple #[]) ∧ u' = .returning ∧ (w.setCell ⟨be, 0, none⟩ (.int .i64 0)).drew = w' := by
  refine callsDIn_wide Try.func36 rfl fun c₀ cs hu => ?_
  apply wpS_seq
  refine wpS_region_any (by kernel_rfl) ?_
  refine wpAnyR_step (fuel := 3) (rs := [0, 1]) (by kernel_rfl) (by simp) ?_
  intro i hi
  have hi' : i = 0 ∨ i = 1 := by simpa using hi
  clear hi
  rcases hi' with rfl | rfl
  · simp [wpOpR, go_sem, recoverD, hu, he, Try.ntmps36]
    refine wpAnyR_step (fuel := 2) (rs := [1]) (by kernel_rfl) (by simp) ?_
    intro i hi
    obtain rfl : i = 1 := by simpa using hi
    clear hi
    simp [wpOpR, go_sem, recoverD, hu, he]
    refine wpAnyR_step (fuel := 1) (rs := [2]) (by kernel_rfl) (by simp) ?_
    intro i hi
    obtain rfl : i = 2 := by simpa using hi
    clear hi
    simp [wpOpR, go_sem]
    refine (caught_nil 0 _).mono ?_
    rintro e w' ⟨rfl, rfl⟩
    refine wpAnyR_step (fuel := 0) (rs := [3]) (by kernel_rfl) (by simp) ?_
    intro i hi
    obtain rfl : i = 3 := by simpa using hi
    clear hi
    simp [wpOpR, go_sem, he, hf]
    refine wpAnyR_done (by kernel_rfl) ?_
    simp only [Exit.thenS]
    apply wpS_seq
    apply wpS_region
    simp [wpOpsS, go_sem, he, Exit.thenS]
    refine wpS_cond (t := false) (by simp [Act.eval]) ?_
    simp only [Bool.false_eq_true, if_false]
    refine wpS_of_wp (wp_skip ?_)
    cases c₀
    simp_all [bodyPostS, results, Try.results36]
  · simp [wpOpR, go_sem, recoverD, hu, he, Try.ntmps36]
    refine wpAnyR_step (fuel := 2) (rs := [0]) (by kernel_rfl) (by simp) ?_
    intro i hi
    obtain rfl : i = 0 := by simpa using hi
    clear hi
    simp [wpOpR, go_sem, recoverD, hu, he]
    refine wpAnyR_step (fuel := 1) (rs := [2]) (by kernel_rfl) (by simp) ?_
    intro i hi
    obtain rfl : i = 2 := by simpa using hi
    clear hi
    simp [wpOpR, go_sem]
    refine (caught_nil 0 _).mono ?_
    rintro e w' ⟨rfl, rfl⟩
    refine wpAnyR_step (fuel := 0) (rs := [3]) (by kernel_rfl) (by simp) ?_
    intro i hi
    obtain rfl : i = 3 := by simpa using hi
    clear hi
    simp [wpOpR, go_sem, he, hf]
    refine wpAnyR_done (by kernel_rfl) ?_
    simp only [Exit.thenS]
    apply wpS_seq
    apply wpS_region
    simp [wpOpsS, go_sem, he, Exit.thenS]
    refine wpS_cond (t := false) (by simp [Act.eval]) ?_
    simp only [Bool.false_eq_true, if_false]
    refine wpS_of_wp (wp_skip ?_)
    cases c₀
    simp_all [bodyPostS, results, Try.results36]

/-- what is left of a run that was broken off -/
def Broken (be bl : Nat) (k : Int) (w w' : World) : Prop := ∃ w1, Below w.heap.size w w1 ∧ w' = (w1.setCell ⟨be, 0, none⟩ (.int .i64 k)).setCell ⟨bl, 0, none⟩ (.slice none 0 0)

set_option maxRecDepth 100000 in
set_option maxHeartbeats 1000000 in
theorem defer_caught (nn be bl : Nat) (n k : Int) (vl : Value) (older : List PanicEntry) (w : World) (he : w.cell? ⟨be, 0, none⟩ = some (.int .i64 n)) (hf : w.frozen? ⟨be, 0, none⟩ = false)
    (hl : w.cell? ⟨bl, 0, none⟩ = some vl) (hg : w.frozen? ⟨bl, 0, none⟩ = false) (hne : ¬ be = bl) (hk : (k != 0) = true) :
    CallsDIn Fence.wide nn Try.prog 36 #[.pointer (some ⟨be, 0, none⟩), .pointer (some ⟨bl, 0, none⟩)] (.panicking ({ v := .iface 122 (.agg #[.int .i64 k]), recovered := false } :: older)) w fun e u' w' =>
      e = .returned (.tuple #[]) ∧ u' = .panicking ({ v := .iface 122 (.agg #[.int .i64 k]), recovered := true } :: older) ∧ Broken be bl k w w' := by
  have be1 := World.block_lt_of_cell? w _ he
  have bl1 := World.block_lt_of_cell? w _ hl
  refine callsDIn_wide Try.func36 rfl fun c₀ cs hu => ?_
  apply wpS_seq
  refine wpS_region_any (by kernel_rfl) ?_
  refine wpAnyR_step (fuel := 3) (rs := [0, 1]) (by kernel_rfl) (by simp) ?_
  intro i hi
  have hi' : i = 0 ∨ i = 1 := by simpa using hi
  clear hi
  rcases hi' with rfl | rfl
  · simp [wpOpR, go_sem, recoverD, hu, he, Try.ntmps36]
    refine wpAnyR_step (fuel := 2) (rs := [1]) (by kernel_rfl) (by simp) ?_
    intro i hi
    obtain rfl : i = 1 := by simpa using hi
    clear hi
    simp [wpOpR, go_sem, recoverD, hu, he]
    refine wpAnyR_step (fuel := 1) (rs := [2]) (by kernel_rfl) (by simp) ?_
    intro i hi
    obtain rfl : i = 2 := by simpa using hi
    clear hi
    simp [wpOpR, go_sem]
    refine (caught_misfit n k _).mono ?_
    rintro e w1 ⟨rfl, hb1⟩
    have he1 : w1.cell? ⟨be, 0, none⟩ = some (.int .i64 n) := (hb1.cell (p := ⟨be, 0, none⟩) be1).trans he
    have hf1 : w1.frozen? ⟨be, 0, none⟩ = false := (hb1.frozen (p := ⟨be, 0, none⟩) be1).trans hf
    have hl1 : w1.cell? ⟨bl, 0, none⟩ = some vl := (hb1.cell (p := ⟨bl, 0, none⟩) bl1).trans hl
    have hg1 : w1.frozen? ⟨bl, 0, none⟩ = false := (hb1.frozen (p := ⟨bl, 0, none⟩) bl1).trans hg
    refine wpAnyR_step (fuel := 0) (rs := [3]) (by kernel_rfl) (by simp) ?_
    intro i hi
    obtain rfl : i = 3 := by simpa using hi
    clear hi
    simp [wpOpR, go_sem, he1, hf1]
    refine wpAnyR_done (by kernel_rfl) ?_
    simp only [Exit.thenS]
    apply wpS_seq
    apply wpS_region
    simp [wpOpsS, go_sem, he1, Exit.thenS]
    refine wpS_cond (t := true) (by simpa [Act.eval] using hk) ?_
    simp only [if_true]
    apply wpS_region
    simp [wpOpsS, go_sem, hl1, hg1, hne, bodyPostS, results, Try.results36]
    exact ⟨w1, (Below.refl _ w).drew.trans hb1, rfl⟩
  · simp [wpOpR, go_sem, recoverD, hu, he, Try.ntmps36]
    refine wpAnyR_step (fuel := 2) (rs := [0]) (by kernel_rfl) (by simp) ?_
    intro i hi
    obtain rfl : i = 0 := by simpa using hi
    clear hi
    simp [wpOpR, go_sem, recoverD, hu, he]
    refine wpAnyR_step (fuel := 1) (rs := [2]) (by kernel_rfl) (by simp) ?_
    intro i hi
    obtain rfl : i = 2 := by simpa using hi
    clear hi
    simp [wpOpR, go_sem]
    refine (caught_misfit n k _).mono ?_
    rintro e w1 ⟨rfl, hb1⟩
    have he1 : w1.cell? ⟨be, 0, none⟩ = some (.int .i64 n) := (hb1.cell (p := ⟨be, 0, none⟩) be1).trans he
    have hf1 : w1.frozen? ⟨be, 0, none⟩ = false := (hb1.frozen (p := ⟨be, 0, none⟩) be1).trans hf
    have hl1 : w1.cell? ⟨bl, 0, none⟩ = some vl := (hb1.cell (p := ⟨bl, 0, none⟩) bl1).trans hl
    have hg1 : w1.frozen? ⟨bl, 0, none⟩ = false := (hb1.frozen (p := ⟨bl, 0, none⟩) bl1).trans hg
    refine wpAnyR_step (fuel := 0) (rs := [3]) (by kernel_rfl) (by simp) ?_
    intro i hi
    obtain rfl : i = 3 := by simpa using hi
    clear hi
    simp [wpOpR, go_sem, he1, hf1]
    refine wpAnyR_done (by kernel_rfl) ?_
    simp only [Exit.thenS]
    apply wpS_seq
    apply wpS_region
    simp [wpOpsS, go_sem, he1, Exit.thenS]
    refine wpS_cond (t := true) (by simpa [Act.eval] using hk) ?_
    simp only [if_true]
    apply wpS_region
    simp [wpOpsS, go_sem, hl1, hg1, hne, bodyPostS, results, Try.results36]
    exact ⟨w1, (Below.refl _ w).drew.trans hb1, rfl⟩
end Go.Proofs.Ytfefmgadfklgmaa.L4

namespace Go.Proofs.Ytfefmgadfklgmaa.L4
open Go.RowKit Go.Shelf

attribute [local go_sem] Oper.semAt_some

/-- draw, of a pot that is valid, in one word -/
theorem draw_all (bs bc b off bv offv cL cV : Nat) (c : Crv) (p : Pot3) (d : Int) (w : World) (g : Good c.n c.L c.A c.B) (hC : CurveAt w bc b off bv offv c.n cL cV c.L c.A c.B) (hS : StillBox w bs p.v p.lo p.hi bc) (hp : p.ok) (h : errD p d = 0) :
    Calls Try.prog 55 #[.pointer (some ⟨bs, 0, none⟩), .int .i64 d] w fun e w' => e = .returned (c.out p d).val ∧ StillBox w' bs (c.next p d).v (c.next p d).lo (c.next p d).hi bc ∧ w.grownBy w' (some bs) := by
  obtain ⟨h1, h2⟩ := errD_zero h
  obtain ⟨p0, p1, p2, p3⟩ := hp
  exact draw_ok bs bc b off bv offv c.n cL cV c.L c.A c.B p.v p.lo p.hi d w h1 g hC hS h2 p0 p1 p2 p3 _ _ _ _ _ _ _ _ _ _ _ (Lib.hid rfl) (Lib.hid rfl) (Lib.hid rfl) (Lib.hid rfl) (Lib.hid rfl) (Lib.hid rfl) (Lib.hid rfl) (Lib.hid rfl) (Lib.hid rfl) (Lib.hid rfl) (Lib.hid rfl)
theorem draw_bad (bs bc : Nat) (p : Pot3) (d : Int) (w : World) (hS : StillBox w bs p.v p.lo p.hi bc) (h : errD p d ≠ 0) :
    Calls Try.prog 55 #[.pointer (some ⟨bs, 0, none⟩), .int .i64 d] w fun e w' => e = .panicked [{ v := .iface 122 (.agg #[.int .i64 (errD p d)]), recovered := false }] ∧ Below w.heap.size w w' := by
  rcases errD_cases p d with h0 | ⟨h1, h2⟩ | ⟨h1, h2, h3⟩
  · exact absurd h0 h
  · rw [h1]; exact draw_range bs d w h2
  · rw [h1]; exact draw_short bs bc p.v p.lo p.hi d w h2 hS h3

/-- the blocks that the iterator reads -/
structure Kept (bs ba bp bc b bv bm : Nat) (W W' : World) : Prop where
  size : W.heap.size ≤ W'.heap.size
  s : W'.heap[bs]? = W.heap[bs]?
  a : W'.heap[ba]? = W.heap[ba]?
  p : W'.heap[bp]? = W.heap[bp]?
  c : W'.heap[bc]? = W.heap[bc]?
  l : W'.heap[b]? = W.heap[b]?
  v : W'.heap[bv]? = W.heap[bv]?
  m : W'.heap[bm]? = W.heap[bm]?

/-- what the iterator reads, as it was when the loop began -/
structure Reads (aM : Option Addr) (bs ba bp bc b off bv offv cL cV bm offm k cM : Nat) (c : Crv) (M : Nat → Int) (W : World) : Prop where
  cur : CurveAt W bc b off bv offv c.n cL cV c.L c.A c.B
  ac : W.cell? ⟨ba, 0, none⟩ = some (.slice aM k cM)
  pc : W.cell? ⟨bp, 0, none⟩ = some (.pointer (some ⟨bs, 0, none⟩))
  ms : ∀ i, i < k → W.cell? ⟨bm, offm + i, none⟩ = some (.int .i64 (M i))

theorem Reads.same {aM : Option Addr} {bs ba bp bc b off bv offv cL cV bm offm k cM : Nat} {c : Crv} {M : Nat → Int} {W W' : World} (h : Reads aM bs ba bp bc b off bv offv cL cV bm offm k cM c M W) (hz : W.heap.size ≤ W'.heap.size)
    (ha : W'.heap[ba]? = W.heap[ba]?) (hp : W'.heap[bp]? = W.heap[bp]?) (hc : W'.heap[bc]? = W.heap[bc]?) (hl : W'.heap[b]? = W.heap[b]?) (hv : W'.heap[bv]? = W.heap[bv]?) (hm : W'.heap[bm]? = W.heap[bm]?) :
    Reads aM bs ba bp bc b off bv offv cL cV bm offm k cM c M W' :=
  ⟨⟨Nat.lt_of_lt_of_le h.cur.cb hz, (World.cell?_of_block (w := W) hc).trans h.cur.c0, (World.cell?_of_block (w := W) hc).trans h.cur.c1,
    ⟨Nat.lt_of_lt_of_le h.cur.pts.lb hz, Nat.lt_of_lt_of_le h.cur.pts.vb hz, fun i hi => (World.cell?_of_block (w := W) hl).trans (h.cur.pts.ls i hi),
      fun i hi => ⟨(World.cell?_of_block (w := W) hv).trans (h.cur.pts.vs i hi).1, (World.cell?_of_block (w := W) hv).trans (h.cur.pts.vs i hi).2⟩⟩⟩,
   (World.cell?_of_block (w := W) ha).trans h.ac, (World.cell?_of_block (w := W) hp).trans h.pc, fun i hi => (World.cell?_of_block (w := W) hm).trans (h.ms i hi)⟩

/-- how the iterator ends -/
def AllEnds (c : Crv) (p : Pot3) (M : Nat → Int) (k m bs bc : Nat) (J : Nat → World → Prop) (e : Ending) (W : World) : Prop :=
  (m = k ∧ (∃ v, e = .returned v) ∧ J k W ∧ StillBox W bs (c.potAt p M k).v (c.potAt p M k).lo (c.potAt p M k).hi bc) ∨
  (m < k ∧ e = .panicked [{ v := .iface 122 (.agg #[.int .i64 (c.errAt p M m)]), recovered := false }] ∧ J m W)

set_option maxRecDepth 100000 in
set_option maxHeartbeats 2000000 in
theorem all1_in (n l : Nat) (aM : Option Addr) (bs ba bp bc b off bv offv cL cV bm offm k cM : Nat) (c : Crv) (p : Pot3) (M : Nat → Int) (m : Nat) (hk : k ≤ 1000000) (hmk : m ≤ k) (g : Good c.n c.L c.A c.B)
    (hok : ∀ j, j ≤ m → (c.potAt p M j).ok) (hgo : ∀ j, j < m → c.errAt p M j = 0) (hst : m < k → c.errAt p M m ≠ 0)
    (haM : 0 < k → aM = some ⟨bm, offm, none⟩) (hne : ba ≠ bs ∧ bp ≠ bs ∧ bc ≠ bs ∧ b ≠ bs ∧ bv ≠ bs ∧ bm ≠ bs)
    (J : Nat → World → Prop) (hJ : ∀ j W W', J j W → W.grownBy W' (some bs) → J j W')
    (hY : ∀ j W, J j W → j < m → StillBox W bs (c.potAt p M (j + 1)).v (c.potAt p M (j + 1)).lo (c.potAt p M (j + 1)).hi bc → YieldAt Fence.wide (n - 1) Try.prog l #[.int .i64 j, (c.outAt p M j).val] W fun e W' => e = .returned (.bool true) ∧ J (j + 1) W' ∧ Kept bs ba bp bc b bv bm W W')
    (W : World) (hR : Reads aM bs ba bp bc b off bv offv cL cV bm offm k cM c M W) (hS : StillBox W bs p.v p.lo p.hi bc) (h0 : J 0 W) :
    CallsIn Fence.wide n Try.prog 54 #[.func (.yield l) #[] #[], .pointer (some ⟨ba, 0, none⟩), .pointer (some ⟨bp, 0, none⟩)] W (AllEnds c p M k m bs bc J) := by
  have HaM := Lib.hid haM; clear haM
  have HOK := Lib.hid hok; clear hok
  have HGO := Lib.hid hgo; clear hgo
  have HST := Lib.hid hst; clear hst
  have HJ := Lib.hid hJ; clear hJ
  have HY := Lib.hid hY; clear hY
  have G := Lib.hid g; clear g
  have ac := hR.ac
  have HR := Lib.hid hR; clear hR
  refine callsIn_of_wp Try.func54 rfl trivial ?_ rfl
  simp only [Try.ntmps54, List.size_toArray, List.length_cons, List.length_nil, Nat.reduceAdd, Nat.reduceSub, Array.replicate_succ, Array.replicate_zero, List.push_toArray, List.append_toArray, List.nil_append, List.cons_append]
  gi_wp2
  gi_loopw [8] (fun i wr => ∃ j : Nat, j ≤ m ∧ i = .int .i64 j ∧ J j wr ∧ StillBox wr bs (c.potAt p M j).v (c.potAt p M j).lo (c.potAt p M j).hi bc ∧ Reads aM bs ba bp bc b off bv offv cL cV bm offm k cM c M wr)
    (fun i _ => k - (intOf i).toNat)
  case atStart => exact ⟨0, Nat.zero_le _, rfl, h0, hS, HR.out⟩
  case round =>
    obtain ⟨j, hj, rfl, hJj, hSj, hRj⟩ := hrel
    by_cases hlt : j < k
    · have eM := HaM.out (by omega)
      subst eM
      have mj := hRj.ms j hlt
      have pc := hRj.pc
      by_cases hjm : j < m
      · have HJj := Lib.hid hJj; clear hJj
        have HSj := Lib.hid hSj; clear hSj
        have HRj := Lib.hid hRj; clear hRj
        have D : Calls Try.prog 55 #[.pointer (some ⟨bs, 0, none⟩), .int .i64 (M j)] wr fun e w' => e = .returned (c.outAt p M j).val ∧ StillBox w' bs (c.potAt p M (j + 1)).v (c.potAt p M (j + 1)).lo (c.potAt p M (j + 1)).hi bc ∧ wr.grownBy w' (some bs) :=
          draw_all bs bc b off bv offv cL cV c (c.potAt p M j) (M j) wr G.out HRj.out.cur HSj.out (HOK.out j hj) (HGO.out j hjm)
        have HD := Lib.hid D; clear D
        gi_wp2_with fail
        refine ⟨trivial, (fun h => (by cases h)), ?_⟩
        refine (callsIn_wide.2 HD.out).mono ?_
        rintro e W2 ⟨rfl, hS2, hG2⟩
        obtain ⟨fn, tmps, assign, body, hy, hR2⟩ := HY.out j W2 (HJ.out j wr W2 HJj.out hG2) hjm hS2
        have hRd : Reads (some ⟨bm, offm, none⟩) bs ba bp bc b off bv offv cL cV bm offm k cM c M W2 := by
          obtain ⟨n1, n2, n3, n4, n5, n6⟩ := hne
          have hh := HRj.out
          exact hh.same hG2.size (hG2.block _ (World.block_lt_of_cell? _ _ hh.ac) (by simpa using n1)) (hG2.block _ (World.block_lt_of_cell? _ _ hh.pc) (by simpa using n2)) (hG2.block _ hh.cur.cb (by simpa using n3)) (hG2.block _ hh.cur.pts.lb (by simpa using n4)) (hG2.block _ hh.cur.pts.vb (by simpa using n5)) (hG2.block _ (World.block_lt_of_cell? _ _ (hh.ms j hlt)) (by simpa using n6))
        have HS2 := Lib.hid hS2; clear hS2
        have HRd := Lib.hid hRd; clear hRd hG2
        have HR2 := Lib.hid hR2; clear hR2
        gi_wp2_with fail
        refine ⟨(fun h => (by cases h)), HR2.out.mono ?_⟩
        rintro e W3 ⟨rfl, hJ3, hk3⟩
        have HJ3 := Lib.hid hJ3; clear hJ3
        have Hk3 := Lib.hid hk3; clear hk3
        gi_wp2
        go_roundw
        case rel => exact ⟨j + 1, hjm, by go_num, HJ3.out, Hk3.out.s.trans HS2.out, HRd.out.same Hk3.out.size Hk3.out.a Hk3.out.p Hk3.out.c Hk3.out.l Hk3.out.v Hk3.out.m⟩
        case measure => simp [intOf]; omega
      · obtain rfl : j = m := by omega
        have HD := Lib.hid (draw_bad bs bc (c.potAt p M j) (M j) wr hSj (HST.out hlt))
        have HJj := Lib.hid hJj; clear hJj
        have HSj := Lib.hid hSj; clear hSj
        have HRj := Lib.hid hRj; clear hRj
        gi_wp2_with fail
        refine ⟨trivial, (fun h => (by cases h)), ?_⟩
        refine (callsIn_wide.2 HD.out).mono ?_
        rintro e W2 ⟨rfl, hB2⟩
        exact ⟨rfl, .inr ⟨hlt, rfl, HJ.out _ _ _ HJj.out (grownBy_of_below hB2 _)⟩⟩
    · obtain rfl : j = k := by omega
      obtain rfl : j = m := by omega
      have HJj := Lib.hid hJj; clear hJj
      have HSj := Lib.hid hSj; clear hSj
      clear hRj
      gi_wp2
      go_end0
      exact .inl ⟨rfl, ⟨_, rfl⟩, HJj.out, HSj.out⟩
end Go.Proofs.Ytfefmgadfklgmaa.L4

namespace Go.Proofs.Ytfefmgadfklgmaa.L4
open Go.RowKit Go.Shelf

attribute [local go_sem] Oper.semAt_some

set_option maxRecDepth 100000 in
set_option maxHeartbeats 1000000 in
theorem run_early (aL aV aM : Option Addr) (n m cL cV k cM : Nat) (L A B : Nat → Int) (v lo hi : Int) (w : World) (hn : n ≤ 1000000000000) (hm : m ≤ 1000000000000) (hk : k ≤ 1000000000000) (hL : IntsAt w aL n L) (hV : SpansAt w aV m A B)
    (x : Int) (hx : earlyE n m L A B v lo hi k = x) (h0 : (x != 0) = true) :
    Calls Try.prog 12 #[.agg #[.slice aL n cL, .slice aV m cV], .agg #[.int .i64 v, .int .i64 lo, .int .i64 hi], .slice aM k cM] w fun e w' =>
      e = .returned (.tuple #[.slice none 0 0, .agg #[.int .i64 0, .int .i64 0, .int .i64 0], .int .i64 x]) ∧ Below w.heap.size w w' := by
  have HL := Lib.hid hL; clear hL
  have HV := Lib.hid hV; clear hV
  have HX := Lib.hid hx; clear hx
  go_enter Try.func12, Try.ntmps12
  go_wp2_with fail
  have hB := (((((Below.refl _ w).alloc (Nat.le_refl _) (.cells #[.slice aL n cL, .slice aV m cV] 34)).alloc (by simp) (.cells #[.int .i64 v, .int .i64 lo, .int .i64 hi] 58)).alloc (by simp; omega) (.cells #[.slice none 0 0] 59)).alloc (by simp; omega) (.cells #[.int .i64 0, .int .i64 0, .int .i64 0] 58)).alloc (by simp; omega) (.cells #[.int .i64 0] 44)
  refine (early_any aL aV aM n m cL cV k cM L A B v lo hi _ hn hm hk (HL.out.below hB) (HV.out.below hB)).mono ?_
  rw [HX.out]
  rintro e w1 ⟨rfl, hb1⟩
  obtain ⟨z0, z1, z2, z3, z4, z5⟩ := five_blocks w (.cells #[.slice aL n cL, .slice aV m cV] 34) (.cells #[.int .i64 v, .int .i64 lo, .int .i64 hi] 58) (.cells #[.slice none 0 0] 59) (.cells #[.int .i64 0, .int .i64 0, .int .i64 0] 58) (.cells #[.int .i64 0] 44)
  have y3 := (hb1.block (w.heap.size + 2) (by rw [z0]; omega)).trans z3
  have y4 := (hb1.block (w.heap.size + 3) (by rw [z0]; omega)).trans z4
  have y5 := (hb1.block (w.heap.size + 4) (by rw [z0]; omega)).trans z5
  have b0 := cell_of_block y3 0 (by simp)
  have b1 := cell_of_block y4 0 (by simp)
  have b2 := cell_of_block y4 1 (by simp)
  have b3 := cell_of_block y4 2 (by simp)
  have b4 := cell_of_block y5 0 (by simp)
  have f0 := frozen_of_block y3 0
  have f1 := frozen_of_block y4 0
  have f2 := frozen_of_block y4 1
  have f3 := frozen_of_block y4 2
  have f4 := frozen_of_block y5 0
  simp at b0 b1 b2 b3 b4
  clear z0 z1 z2 z3 z4 z5 y3 y4 y5
  have HB := Lib.hid (hB.trans (hb1.mono hB.size)); clear hB hb1
  go_wp2_with fail
  go_region
  all_goals
    go_wp2
    refine bodyPost_ret (v := .tuple #[.slice none 0 0, .agg #[.int .i64 0, .int .i64 0, .int .i64 0], .int .i64 x]) (by simp [results, Try.results12, go_sem, b0, b1, b2, b3, b4]) rfl ⟨rfl, ?_⟩
    exact (((((HB.out.setCell (by simp; omega) _).setCell (by simp; omega) _).setCell (by simp; omega) _).setCell (by simp; omega) _).setCell (by simp; omega) _).drew
end Go.Proofs.Ytfefmgadfklgmaa.L4

namespace Go.Proofs.Ytfefmgadfklgmaa.L4
open Go.RowKit

theorem round_done {c : Crv} {p : Pot3} {M : Nat → Int} {w : World} {cb ab pb : Array Value} {S D : Nat} {rec : Loop} {j : Nat} {W Wb w3 : World} {vl : Value} {tmp : Obj} {g' cap' b bv bm : Nat} {v lo hi : Int}
    (hS : w.heap.size + 5 ≤ S) (hD : S + 3 ≤ D) (h : Between c p M w cb ab pb S D rec j W) (hSt : StillBox W S v lo hi w.heap.size)
    (hrow : W.ownsRow w.heap.size 63 3 vl j (c.outs p M j)) (hg1 : W.grownBy Wb (some (D + 1))) {r' : Loop} (hlb : Wb.heap[D + 1]? = some (.loop r'))
    (hgrow : (Wb.alloc tmp).grownBy w3 vl.ownBlock) (hv1 : Boxed w3 (w.heap.size + 2) 59 vl)
    (hown : w3.ownsRow w.heap.size 63 3 (.slice (some ⟨g', 0, none⟩) (j + 1) cap') (j + 1) (c.outs p M j ++ [.int .i64 (c.outAt p M j).d, .int .i64 (c.outAt p M j).lo, .int .i64 (c.outAt p M j).hi]))
    (hb : b < w.heap.size) (hbv : bv < w.heap.size) (hbm : bm < w.heap.size) :
    (w3.setCell ⟨w.heap.size + 2, 0, none⟩ (.slice (some ⟨g', 0, none⟩) (j + 1) cap')).heap[D + 1]? = some (.loop r') ∧ Between c p M w cb ab pb S D rec (j + 1) ((w3.setCell ⟨w.heap.size + 2, 0, none⟩ (.slice (some ⟨g', 0, none⟩) (j + 1) cap')).putObj (D + 1) (.loop rec)) ∧
    Kept S (S + 1 + 1) (S + 1) w.heap.size b bv bm W ((w3.setCell ⟨w.heap.size + 2, 0, none⟩ (.slice (some ⟨g', 0, none⟩) (j + 1) cap')).putObj (D + 1) (.loop rec)) := by
  have hz : W.heap.size ≤ w3.heap.size := by have := hg1.size; have := hgrow.size; simp at this; omega
  have hDl := (Array.getElem?_eq_some_iff.1 h.loop).1
  obtain ⟨W4, hW4⟩ : ∃ W4, w3.setCell ⟨w.heap.size + 2, 0, none⟩ (.slice (some ⟨g', 0, none⟩) (j + 1) cap') = W4 := ⟨_, rfl⟩
  have hz4 : w3.heap.size ≤ W4.heap.size := by rw [← hW4]; exact (KeepsWalks.setCell w3 _ _).size
  have chain : ∀ B, B < W.heap.size → B ≠ D + 1 → B ≠ w.heap.size + 2 → some B ≠ vl.ownBlock → (W4.putObj (D + 1) (.loop rec)).heap[B]? = W.heap[B]? := fun B h1 h2 h3 h4 => by
    rw [World.putObj_heap_other h2, ← hW4, Below.heap_setCell _ _ _ _ h3, hgrow.block B (by have := hg1.size; simp; omega) h4, Below.heap_alloc _ _ _ (by have := hg1.size; omega)]
    exact hg1.block B h1 (by simpa using h2)
  have far : ∀ (B : Nat) (o : Obj), W.heap[B]? = some o → (∀ cur, o ≠ .cells cur 63 (0, 0)) → B ≠ D + 1 → B ≠ w.heap.size + 2 → (W4.putObj (D + 1) (.loop rec)).heap[B]? = some o := fun B o ho hne h2 h3 =>
    (chain B (Array.getElem?_eq_some_iff.1 ho).1 h2 h3 (far_row hrow ho hne)).trans ho
  have cellsNe : ∀ (cs : Array Value) (t : TypeId), t ≠ 63 → ∀ cur, Obj.cells cs t (0, 0) ≠ .cells cur 63 (0, 0) := fun cs t ht cur e => by cases e; exact ht rfl
  have hv2 : Boxed W4 (w.heap.size + 2) 59 (.slice (some ⟨g', 0, none⟩) (j + 1) cap') := by rw [← hW4]; exact hv1.set _
  have hown4 : W4.ownsRow w.heap.size 63 3 (.slice (some ⟨g', 0, none⟩) (j + 1) cap') (j + 1) (c.outs p M (j + 1)) := by
    rw [← hW4, c.outs_succ]
    exact hown.kept (grownBy_setCell' w3 (w.heap.size + 2) _) (.inr (hv1.not_row (by decide) hown).symm)
  have hl4 : W4.heap[D + 1]? = some (.loop r') := by
    rw [← hW4, Below.heap_setCell _ _ _ _ (by simp; omega), hgrow.block (D + 1) (by have := hg1.size; simp; omega) (far_row hrow h.loop (fun _ e => by cases e)), Below.heap_alloc _ _ _ (by have := hg1.size; omega)]
    exact hlb
  have hown5 := ownsRow_putObj hown4 (.loop rec) hl4 rfl
  have hD1 := (Array.getElem?_eq_some_iff.1 hl4).1
  have hnS : (Value.slice (some ⟨g', 0, none⟩) (j + 1) cap').ownBlock ≠ some S := by
    have := far S _ hSt (cellsNe _ _ (by decide)) (by omega) (by omega)
    exact (far_row hown5 this (cellsNe _ _ (by decide))).symm
  have hlow : Below w.heap.size w (W4.putObj (D + 1) (.loop rec)) := by
    have l0 := h.low
    have l1 : Below w.heap.size W (W4.putObj (D + 1) (.loop rec)) := by
      refine ⟨?_, ?_, ?_, ?_, fun k hk => chain k (Nat.lt_of_lt_of_le hk l0.size) (by omega) (by omega) (row_low hrow hk)⟩
      · have e1 := hg1.os; have e2 := hgrow.os; rw [← hW4]; exact e2.trans e1
      · have e1 := hg1.tape; have e2 := hgrow.tape; rw [← hW4]; exact e2.trans e1
      · have e1 := hg1.output; have e2 := hgrow.output; rw [← hW4]; exact e2.trans e1
      · simp; omega
    exact l0.trans l1
  rw [hW4]
  refine ⟨hl4, ⟨⟨_, (World.putObj_heap_other (by omega)).trans hv2, hown5, hnS⟩, far _ _ h.err (cellsNe _ _ (by decide)) (by omega) (by omega), far _ _ h.fin (cellsNe _ _ (by decide)) (by omega) (by omega), far _ _ h.cur (cellsNe _ _ (by decide)) (by omega) (by omega),
    far _ _ h.amt (cellsNe _ _ (by decide)) (by omega) (by omega), far _ _ h.ptr (cellsNe _ _ (by decide)) (by omega) (by omega), World.putObj_heap_same hD1, far _ _ h.dfr (fun _ e => by cases e) (by omega) (by omega), hlow⟩, ?_⟩
  have z := h.low.size
  have same : ∀ (B : Nat) (o : Obj), W.heap[B]? = some o → (∀ cur, o ≠ .cells cur 63 (0, 0)) → B ≠ D + 1 → B ≠ w.heap.size + 2 → (W4.putObj (D + 1) (.loop rec)).heap[B]? = W.heap[B]? := fun B o ho hne h2 h3 => (far B o ho hne h2 h3).trans ho.symm
  exact ⟨by simp; omega, same _ _ hSt (cellsNe _ _ (by decide)) (by omega) (by omega), same _ _ h.amt (cellsNe _ _ (by decide)) (by omega) (by omega), same _ _ h.ptr (cellsNe _ _ (by decide)) (by omega) (by omega), same _ _ h.cur (cellsNe _ _ (by decide)) (by omega) (by omega),
    chain b (by omega) (by omega) (by omega) (row_low hrow hb), chain bv (by omega) (by omega) (by omega) (row_low hrow hbv), chain bm (by omega) (by omega) (by omega) (row_low hrow hbm)⟩
end Go.Proofs.Ytfefmgadfklgmaa.L4

namespace Go.Proofs.Ytfefmgadfklgmaa.L4

/-- the line between its two ends -/
theorem line_ends {n : Nat} {L A B E : Nat → Int} (g : Good n L A B) (hE : ∀ i, i + 1 < n → E i ≤ E (i + 1)) {x : Int} (h0 : 0 ≤ x) (h1 : x ≤ 10000) :
    E (segI L n x) * lineDen L n x ≤ lineNum L E n x ∧ lineNum L E n x ≤ E (segI L n x + 1) * lineDen L n x := by
  obtain ⟨s1, s2, s3⟩ := g.seg h0 h1
  have e := hE _ s1
  unfold lineNum
  have hu : 0 ≤ x - L (segI L n x) := by omega
  have hu2 : x - L (segI L n x) ≤ lineDen L n x := by unfold lineDen; omega
  have a1 : 0 ≤ (E (segI L n x + 1) - E (segI L n x)) * (x - L (segI L n x)) := Int.mul_nonneg (by omega) hu
  have a2 : (E (segI L n x + 1) - E (segI L n x)) * (x - L (segI L n x)) ≤ (E (segI L n x + 1) - E (segI L n x)) * lineDen L n x := Int.mul_le_mul_of_nonneg_left hu2 (by omega)
  have a3 : (E (segI L n x + 1) - E (segI L n x)) * lineDen L n x = E (segI L n x + 1) * lineDen L n x - E (segI L n x) * lineDen L n x := Int.sub_mul _ _ _
  omega

/-- two numbers: the same place, or the first one's before the second one's, or the same number -/
theorem seg_cases {n : Nat} {L A B : Nat → Int} (g : Good n L A B) {x y : Int} (h0 : 0 ≤ x) (hxy : x ≤ y) (h1 : y ≤ 10000) : segI L n x = segI L n y ∨ segI L n x + 1 ≤ segI L n y ∨ x = y := by
  obtain ⟨s1, s2, s3⟩ := g.seg h0 (by omega : x ≤ 10000)
  obtain ⟨t1, t2, t3⟩ := g.seg (by omega : 0 ≤ y) h1
  rcases Nat.lt_trichotomy (segI L n x) (segI L n y) with h | h | h
  · exact .inr (.inl h)
  · exact .inl h
  · have := g.mono (segI L n y + 1) (segI L n x) h (by omega)
    exact .inr (.inr (by omega))

theorem fl_mono {n : Nat} {L A B E : Nat → Int} (g : Good n L A B) (hE : ∀ i, i + 1 < n → E i ≤ E (i + 1)) {x y : Int} (h0 : 0 ≤ x) (hxy : x ≤ y) (h1 : y ≤ 10000) :
    lineNum L E n x / lineDen L n x ≤ lineNum L E n y / lineDen L n y := by
  have dx := g.den h0 (by omega : x ≤ 10000)
  have dy := g.den (by omega : 0 ≤ y) h1
  obtain ⟨s1, s2, s3⟩ := g.seg h0 (by omega : x ≤ 10000)
  obtain ⟨t1, t2, t3⟩ := g.seg (by omega : 0 ≤ y) h1
  rcases seg_cases g h0 hxy h1 with h | h | h
  · have e : lineDen L n x = lineDen L n y := by unfold lineDen; rw [h]
    rw [← e]
    refine Int.ediv_le_ediv (by omega) ?_
    unfold lineNum
    rw [← e, h]
    have := Int.mul_le_mul_of_nonneg_left (show x - L (segI L n y) ≤ y - L (segI L n y) by omega) (show 0 ≤ E (segI L n y + 1) - E (segI L n y) by have := hE _ t1; omega)
    omega
  · have a := (line_ends g hE h0 (by omega : x ≤ 10000)).2
    have b := (line_ends g hE (by omega : 0 ≤ y) h1).1
    have m := mono_of hE _ _ h (by omega)
    have a' : lineNum L E n x / lineDen L n x ≤ E (segI L n x + 1) := by
      have := Int.ediv_le_ediv (show 0 < lineDen L n x by omega) a
      rwa [Int.mul_ediv_cancel _ (by omega)] at this
    have b' : E (segI L n y) ≤ lineNum L E n y / lineDen L n y := by
      have := Int.ediv_le_ediv (show 0 < lineDen L n y by omega) b
      rwa [Int.mul_ediv_cancel _ (by omega)] at this
    omega
  · rw [h]; exact Int.le_refl _

theorem Good.vapLo_mono {n : Nat} {L A B : Nat → Int} (g : Good n L A B) {x y : Int} (h0 : 0 ≤ x) (hxy : x ≤ y) (h1 : y ≤ 10000) : vapLo L A n x ≤ vapLo L A n y := fl_mono g g.incA h0 hxy h1
/-- one line is not above another one whose points are not -/
theorem line_le {n : Nat} {L A B E F : Nat → Int} (g : Good n L A B) (h : ∀ i, i < n → E i ≤ F i) {x : Int} (h0 : 0 ≤ x) (h1 : x ≤ 10000) : lineNum L E n x ≤ lineNum L F n x := by
  obtain ⟨s1, s2, s3⟩ := g.seg h0 h1
  unfold lineNum
  rw [line_mean, line_mean]
  have hd : 0 ≤ lineDen L n x - (x - L (segI L n x)) := by unfold lineDen; omega
  have a1 := Int.mul_le_mul_of_nonneg_right (h (segI L n x) (by omega)) hd
  have a2 := Int.mul_le_mul_of_nonneg_right (h _ s1) (show 0 ≤ x - L (segI L n x) by omega)
  omega

theorem lineNum_self {n : Nat} {L A B : Nat → Int} (g : Good n L A B) {x : Int} (h0 : 0 ≤ x) (h1 : x ≤ 10000) : lineNum L L n x = x * lineDen L n x := by
  unfold lineNum
  rw [show L (segI L n x + 1) - L (segI L n x) = lineDen L n x from rfl, Int.mul_comm (lineDen L n x), ← Int.add_mul]
  congr 1; omega

theorem Good.vapLo_ge {n : Nat} {L A B : Nat → Int} (g : Good n L A B) {x : Int} (h0 : 0 ≤ x) (h1 : x ≤ 10000) : x ≤ vapLo L A n x := by
  have d := g.den h0 h1
  have a := line_le g (fun i hi => (g.span i hi).1) h0 h1
  rw [lineNum_self g h0 h1] at a
  unfold vapLo
  have := Int.ediv_le_ediv (show 0 < lineDen L n x by omega) a
  rwa [Int.mul_ediv_cancel _ (by omega)] at this

theorem Good.lo_le_hi {n : Nat} {L A B : Nat → Int} (g : Good n L A B) {x : Int} (h0 : 0 ≤ x) (h1 : x ≤ 10000) : vapLo L A n x ≤ vapHi L B n x := by
  have d := g.den h0 h1
  have a := line_le g (fun i hi => (g.span i hi).2.1) h0 h1
  unfold vapLo vapHi
  refine Int.ediv_le_ediv (by omega) ?_
  omega

theorem Good.vapLo_zero {n : Nat} {L A B : Nat → Int} (g : Good n L A B) : vapLo L A n 0 = 0 := by
  have t := g.two
  obtain ⟨s1, s2, s3⟩ := g.seg (x := 0) (by omega) (by omega)
  have hs : segI L n 0 = 0 := by
    rcases Nat.eq_zero_or_pos (segI L n 0) with h | h
    · exact h
    · have h1 : L 0 < L 1 := g.inc 0 (by omega)
      have := g.mono 1 (segI L n 0) h (by omega)
      rw [g.zero] at *; omega
  unfold vapLo lineNum
  rw [hs, g.low, g.zero]
  simp

/-- what is drawn leaves a valid pot -/
theorem next_ok {c : Crv} {p : Pot3} {d : Int} (g : Good c.n c.L c.A c.B) (hp : p.ok) (h : errD p d = 0) :
    (c.next p d).ok ∧ 0 ≤ c.least p d ∧ c.least p d ≤ c.most p d ∧ c.most p d ≤ d ∧ c.most p d ≤ p.hi ∧ p.lo ≤ c.most p d + c.stays p d ∧ c.least p d + c.high p d ≤ p.hi := by
  obtain ⟨hd, hv⟩ := errD_zero h
  have hd1 := inB_t.1 hd
  obtain ⟨p0, p1, p2, p3⟩ := hp
  obtain ⟨oL, hoL⟩ : ∃ oL, oL = p.lo * 10000 / p.v := ⟨_, rfl⟩
  obtain ⟨oH, hoH⟩ : ∃ oH, oH = upI (p.hi * 10000) p.v := ⟨_, rfl⟩
  have r0 : 0 ≤ oL ∧ oL ≤ 10000 := by
    rw [hoL]
    exact ⟨Int.ediv_nonneg (by omega) (by omega), by have := Int.ediv_lt_of_lt_mul (show 0 < p.v by omega) (show p.lo * 10000 < 10001 * p.v by omega); omega⟩
  have r1 : 0 ≤ oH ∧ oH ≤ 10000 := by
    rw [hoH]; exact ⟨upI_nonneg (by omega) (by omega), upI_le (by omega) (by omega)⟩
  have oLH : oL ≤ oH := by
    have h1 : p.hi * 10000 ≤ oH * p.v := by rw [hoH]; exact le_upI (by omega)
    have h2 : oL * p.v ≤ p.lo * 10000 := by rw [hoL]; exact Int.ediv_mul_le _ (by omega)
    exact Int.le_of_mul_le_mul_right (show oL * p.v ≤ oH * p.v by omega) (by omega)
  obtain ⟨vh, hvh⟩ : ∃ vh, vh = vapHi c.L c.B c.n oH := ⟨_, rfl⟩
  have rv : 0 ≤ vh ∧ vh ≤ 10000 := by rw [hvh]; exact g.vapHi_range r1.1 r1.2
  have vge : oH ≤ vh := by rw [hvh]; exact Int.le_trans (g.vapLo_ge r1.1 r1.2) (g.lo_le_hi r1.1 r1.2)
  obtain ⟨um, hum⟩ : ∃ um, um = upI (d * vh) 10000 := ⟨_, rfl⟩
  have hm0 : 0 ≤ d * vh := Int.mul_nonneg (by omega) rv.1
  have hm1 : d * vh ≤ d * 10000 := Int.mul_le_mul_of_nonneg_left rv.2 (by omega)
  have ru : 0 ≤ um ∧ um ≤ d := by rw [hum]; exact ⟨upI_nonneg hm0 (by omega), upI_le (by omega) (by omega)⟩
  have um1 : d * vh ≤ um * 10000 := by rw [hum]; exact le_upI (by omega)
  have most : c.most p d = min p.hi um := by unfold Crv.most; rw [hum, hvh, hoH]
  -- um * v ≥ d * hi
  have key : d * p.hi ≤ um * p.v := by
    have h1 : p.hi * 10000 ≤ oH * p.v := by rw [hoH]; exact le_upI (by omega)
    have h2 : oH * p.v ≤ vh * p.v := Int.mul_le_mul_of_nonneg_right vge (by omega)
    have h3 : d * (p.hi * 10000) ≤ d * (vh * p.v) := Int.mul_le_mul_of_nonneg_left (by omega) (by omega)
    have h4 : d * vh * p.v ≤ um * 10000 * p.v := Int.mul_le_mul_of_nonneg_right um1 (by omega)
    have e1 : d * (p.hi * 10000) = d * p.hi * 10000 := (Int.mul_assoc _ _ _).symm
    have e2 : d * (vh * p.v) = d * vh * p.v := (Int.mul_assoc _ _ _).symm
    have e3 : um * 10000 * p.v = um * p.v * 10000 := by rw [Int.mul_assoc, Int.mul_comm 10000, ← Int.mul_assoc]
    omega
  obtain ⟨mo, hmo⟩ : ∃ mo, mo = c.most p d := ⟨_, rfl⟩
  obtain ⟨st, hst⟩ : ∃ st, st = c.stays p d := ⟨_, rfl⟩
  have est : st = max 0 (p.lo - mo) := by rw [hst, hmo]; rfl
  have emo : mo = min p.hi um := by rw [hmo, most]
  -- st * v ≤ hi * (v - d)
  have k2 : st * p.v ≤ p.hi * (p.v - d) := by
    have z : 0 ≤ p.hi * (p.v - d) := Int.mul_nonneg (by omega) (by omega)
    by_cases hs : p.lo - mo ≤ 0
    · have : st = 0 := by omega
      rw [this]; omega
    · have e : st = p.lo - um := by omega
      rw [e, Int.sub_mul, Int.mul_sub, Int.mul_comm p.hi d]
      have := Int.mul_le_mul_of_nonneg_right p1 (show 0 ≤ p.v by omega)
      omega
  obtain ⟨u3, hu3⟩ : ∃ u3, u3 = upI (p.hi * (p.v - d)) p.v := ⟨_, rfl⟩
  have k3 : st ≤ u3 := by
    have h2 : p.hi * (p.v - d) ≤ u3 * p.v := by rw [hu3]; exact le_upI (by omega)
    exact Int.le_of_mul_le_mul_right (show st * p.v ≤ u3 * p.v by omega) (by omega)
  have k4 : u3 ≤ p.v - d := by
    rw [hu3]; refine upI_le (by omega) ?_
    rw [Int.mul_comm p.hi]
    exact Int.mul_le_mul_of_nonneg_left p2 (by omega)
  obtain ⟨wk, hwk⟩ : ∃ wk, wk = c.weak p d := ⟨_, rfl⟩
  have ewk : wk = min oL (if p.v - d = 0 then 0 else st * 10000 / (p.v - d)) := by rw [hwk, hoL, hst]; rfl
  have rw0 : 0 ≤ wk ∧ wk ≤ oL := by
    have : 0 ≤ (if p.v - d = 0 then 0 else st * 10000 / (p.v - d)) := by
      split
      · omega
      · exact Int.ediv_nonneg (by omega) (by omega)
    omega
  obtain ⟨th, hth⟩ : ∃ th, th = vapLo c.L c.A c.n wk := ⟨_, rfl⟩
  have rth : 0 ≤ th ∧ th ≤ vh := by
    rw [hth, hvh]
    exact ⟨(g.vapLo_range rw0.1 (by omega)).1, Int.le_trans (g.vapLo_mono rw0.1 (by omega : wk ≤ oH) r1.2) (g.lo_le_hi r1.1 r1.2)⟩
  obtain ⟨ls, hls⟩ : ∃ ls, ls = c.least p d := ⟨_, rfl⟩
  have els : ls = max (p.lo - (p.v - d)) (d * th / 10000) := by rw [hls, hth, hwk]; rfl
  have t0 : 0 ≤ d * th := Int.mul_nonneg (by omega) rth.1
  have t1 : d * th ≤ d * vh := Int.mul_le_mul_of_nonneg_left rth.2 (by omega)
  have k5 : ls ≤ mo ∧ st ≤ p.hi - ls := by
    by_cases hs : p.lo - mo ≤ 0
    · have s0 : st = 0 := by omega
      have w0 : wk = 0 := by
        have : (if p.v - d = 0 then 0 else st * 10000 / (p.v - d)) = 0 := by
          split
          · rfl
          · rw [s0]; simp
        omega
      have : th = 0 := by rw [hth, w0]; exact g.vapLo_zero
      rw [this] at els
      simp at els
      omega
    · have e : mo = um := by omega
      omega
  have ehg : c.high p d = min (p.hi - ls) (min (p.v - d) u3) := by rw [hls, hu3]; rfl
  rw [← hls, ← hmo, ← hst, ehg]
  refine ⟨⟨?_, ?_, ?_, ?_⟩, ?_, ?_, ?_, ?_, ?_, ?_⟩
  · show 0 ≤ c.stays p d; omega
  · show c.stays p d ≤ c.high p d; rw [ehg]; omega
  · show c.high p d ≤ p.v - d; rw [ehg]; omega
  · show p.v - d ≤ 1073741824; omega
  all_goals omega
end Go.Proofs.Ytfefmgadfklgmaa.L4
