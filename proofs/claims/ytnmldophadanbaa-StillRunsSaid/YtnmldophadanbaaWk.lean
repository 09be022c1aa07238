/- Contract of the iterator of (*still).all. No conditions beyond each theorem's own. -/
import Derived.Test.YtnmldophadanbaaWi
import Derived.Test.YtnmldophadanbaaKh
import Derived.RangeFuncNested
import Derived.RangeFuncBound
import Derived.RangeFuncCalls
import Derived.RangeFuncLeaves
import Derived.Shelf.Abstract
import Derived.Shelf.RegionOpen
import Derived.OwnWalkIn
import Derived.TacticsInMore
import Derived.LoopNIn
import Derived.LoopIn
set_option linter.unusedVariables false
set_option linter.unusedSimpArgs false
set_option linter.unusedSectionVars false
set_option linter.constructorNameAsVariable false
namespace Go.Proofs.Ytnmldophadanbaa
open Go.RowKit Go.Shelf

attribute [local go_sem] Oper.semAt_some

/-- draw, of a pot that is valid, in one word -/
theorem draw_all (bs bc b off bv offv cL cV : Nat) (c : Crv) (p : Pot3) (d : Int) (w : World) (g : Good c.n c.L c.A c.B) (hC : CurveAt w bc b off bv offv c.n cL cV c.L c.A c.B) (hS : StillBox w bs p.v p.lo p.hi bc) (hp : p.ok) (h : errD p d = 0) :
    Calls Try.prog 69 #[.pointer (some ⟨bs, 0, none⟩), .int .i64 d] w fun e w' => e = .returned (c.out p d).val ∧ StillBox w' bs (c.next p d).v (c.next p d).lo (c.next p d).hi bc ∧ w.grownBy w' (some bs) := by
  obtain ⟨h1, h2⟩ := errD_zero h
  obtain ⟨p0, p1, p2, p3⟩ := hp
  exact draw_ok bs bc b off bv offv c.n cL cV c.L c.A c.B p.v p.lo p.hi d w h1 g hC hS h2 p0 p1 p2 p3 _ _ _ _ _ _ _ _ _ _ _ (Lib.hid rfl) (Lib.hid rfl) (Lib.hid rfl) (Lib.hid rfl) (Lib.hid rfl) (Lib.hid rfl) (Lib.hid rfl) (Lib.hid rfl) (Lib.hid rfl) (Lib.hid rfl) (Lib.hid rfl)
theorem draw_bad (bs bc : Nat) (p : Pot3) (d : Int) (w : World) (hS : StillBox w bs p.v p.lo p.hi bc) (h : errD p d ≠ 0) :
    Calls Try.prog 69 #[.pointer (some ⟨bs, 0, none⟩), .int .i64 d] w fun e w' => e = .panicked [{ v := .iface 99 (.agg #[.int .i64 (errD p d)]), recovered := false }] ∧ Below w.heap.size w w' := by
  rcases errD_cases p d with h0 | ⟨h1, h2⟩ | ⟨h1, h2, h3⟩
  · exact absurd h0 h
  · rw [h1]; exact draw_range bs d w h2
  · rw [h1]; exact draw_short bs bc p.v p.lo p.hi d w h2 hS h3

/-- the blocks that the iterator reads -/
structure Kept (bs ba bp bc b bv bm : Nat) (W W' : World) : Prop where
  size : W.heap.size ≤ W'.heap.size
  s : W'.heap[bs]? = W.heap[bs]?
  a : W'.heap[ba]? = W.heap[ba]?
  p : W'.heap[bp]? = W.heap[bp]?
  c : W'.heap[bc]? = W.heap[bc]?
  l : W'.heap[b]? = W.heap[b]?
  v : W'.heap[bv]? = W.heap[bv]?
  m : W'.heap[bm]? = W.heap[bm]?

/-- what the iterator reads, as it was when the loop began -/
structure Reads (aM : Option Addr) (bs ba bp bc b off bv offv cL cV bm offm k cM : Nat) (c : Crv) (M : Nat → Int) (W : World) : Prop where
  cur : CurveAt W bc b off bv offv c.n cL cV c.L c.A c.B
  ac : W.cell? ⟨ba, 0, none⟩ = some (.slice aM k cM)
  pc : W.cell? ⟨bp, 0, none⟩ = some (.pointer (some ⟨bs, 0, none⟩))
  ms : ∀ i, i < k → W.cell? ⟨bm, offm + i, none⟩ = some (.int .i64 (M i))

theorem Reads.same {aM : Option Addr} {bs ba bp bc b off bv offv cL cV bm offm k cM : Nat} {c : Crv} {M : Nat → Int} {W W' : World} (h : Reads aM bs ba bp bc b off bv offv cL cV bm offm k cM c M W) (hz : W.heap.size ≤ W'.heap.size)
    (ha : W'.heap[ba]? = W.heap[ba]?) (hp : W'.heap[bp]? = W.heap[bp]?) (hc : W'.heap[bc]? = W.heap[bc]?) (hl : W'.heap[b]? = W.heap[b]?) (hv : W'.heap[bv]? = W.heap[bv]?) (hm : W'.heap[bm]? = W.heap[bm]?) :
    Reads aM bs ba bp bc b off bv offv cL cV bm offm k cM c M W' :=
  ⟨⟨Nat.lt_of_lt_of_le h.cur.cb hz, (World.cell?_of_block (w := W) hc).trans h.cur.c0, (World.cell?_of_block (w := W) hc).trans h.cur.c1,
    ⟨Nat.lt_of_lt_of_le h.cur.pts.lb hz, Nat.lt_of_lt_of_le h.cur.pts.vb hz, fun i hi => (World.cell?_of_block (w := W) hl).trans (h.cur.pts.ls i hi),
      fun i hi => ⟨(World.cell?_of_block (w := W) hv).trans (h.cur.pts.vs i hi).1, (World.cell?_of_block (w := W) hv).trans (h.cur.pts.vs i hi).2⟩⟩⟩,
   (World.cell?_of_block (w := W) ha).trans h.ac, (World.cell?_of_block (w := W) hp).trans h.pc, fun i hi => (World.cell?_of_block (w := W) hm).trans (h.ms i hi)⟩

/-- how the iterator ends -/
def AllEnds (c : Crv) (p : Pot3) (M : Nat → Int) (k m bs bc : Nat) (J : Nat → World → Prop) (e : Ending) (W : World) : Prop :=
  (m = k ∧ (∃ v, e = .returned v) ∧ J k W ∧ StillBox W bs (c.potAt p M k).v (c.potAt p M k).lo (c.potAt p M k).hi bc) ∨
  (m < k ∧ e = .panicked [{ v := .iface 99 (.agg #[.int .i64 (c.errAt p M m)]), recovered := false }] ∧ J m W)

set_option maxRecDepth 100000 in
set_option maxHeartbeats 2000000 in
theorem all1_in (n l : Nat) (aM : Option Addr) (bs ba bp bc b off bv offv cL cV bm offm k cM : Nat) (c : Crv) (p : Pot3) (M : Nat → Int) (m : Nat) (hk : k ≤ 1000000) (hmk : m ≤ k) (g : Good c.n c.L c.A c.B)
    (hok : ∀ j, j ≤ m → (c.potAt p M j).ok) (hgo : ∀ j, j < m → c.errAt p M j = 0) (hst : m < k → c.errAt p M m ≠ 0)
    (haM : 0 < k → aM = some ⟨bm, offm, none⟩) (hne : ba ≠ bs ∧ bp ≠ bs ∧ bc ≠ bs ∧ b ≠ bs ∧ bv ≠ bs ∧ bm ≠ bs)
    (J : Nat → World → Prop) (hJ : ∀ j W W', J j W → W.grownBy W' (some bs) → J j W')
    (hY : ∀ j W, J j W → j < m → StillBox W bs (c.potAt p M (j + 1)).v (c.potAt p M (j + 1)).lo (c.potAt p M (j + 1)).hi bc → YieldAt Fence.wide (n - 1) Try.prog l #[.int .i64 j, (c.outAt p M j).val] W fun e W' => e = .returned (.bool true) ∧ J (j + 1) W' ∧ Kept bs ba bp bc b bv bm W W')
    (W : World) (hR : Reads aM bs ba bp bc b off bv offv cL cV bm offm k cM c M W) (hS : StillBox W bs p.v p.lo p.hi bc) (h0 : J 0 W) :
    CallsIn Fence.wide n Try.prog 68 #[.func (.yield l) #[] #[], .pointer (some ⟨ba, 0, none⟩), .pointer (some ⟨bp, 0, none⟩)] W (AllEnds c p M k m bs bc J) := by
  have HaM := Lib.hid haM; clear haM
  have HOK := Lib.hid hok; clear hok
  have HGO := Lib.hid hgo; clear hgo
  have HST := Lib.hid hst; clear hst
  have HJ := Lib.hid hJ; clear hJ
  have HY := Lib.hid hY; clear hY
  have G := Lib.hid g; clear g
  have ac := hR.ac
  have HR := Lib.hid hR; clear hR
  refine callsIn_of_wp Try.func68 rfl trivial ?_ rfl
  simp only [Try.ntmps68, List.size_toArray, List.length_cons, List.length_nil, Nat.reduceAdd, Nat.reduceSub, Array.replicate_succ, Array.replicate_zero, List.push_toArray, List.append_toArray, List.nil_append, List.cons_append]
  gi_wp2
  gi_loopw [8] (fun i wr => ∃ j : Nat, j ≤ m ∧ i = .int .i64 j ∧ J j wr ∧ StillBox wr bs (c.potAt p M j).v (c.potAt p M j).lo (c.potAt p M j).hi bc ∧ Reads aM bs ba bp bc b off bv offv cL cV bm offm k cM c M wr)
    (fun i _ => k - (intOf i).toNat)
  case atStart => exact ⟨0, Nat.zero_le _, rfl, h0, hS, HR.out⟩
  case round =>
    obtain ⟨j, hj, rfl, hJj, hSj, hRj⟩ := hrel
    by_cases hlt : j < k
    · have eM := HaM.out (by omega)
      subst eM
      have mj := hRj.ms j hlt
      have pc := hRj.pc
      by_cases hjm : j < m
      · have HJj := Lib.hid hJj; clear hJj
        have HSj := Lib.hid hSj; clear hSj
        have HRj := Lib.hid hRj; clear hRj
        have D : Calls Try.prog 69 #[.pointer (some ⟨bs, 0, none⟩), .int .i64 (M j)] wr fun e w' => e = .returned (c.outAt p M j).val ∧ StillBox w' bs (c.potAt p M (j + 1)).v (c.potAt p M (j + 1)).lo (c.potAt p M (j + 1)).hi bc ∧ wr.grownBy w' (some bs) :=
          draw_all bs bc b off bv offv cL cV c (c.potAt p M j) (M j) wr G.out HRj.out.cur HSj.out (HOK.out j hj) (HGO.out j hjm)
        have HD := Lib.hid D; clear D
        gi_wp2_with fail
        refine ⟨trivial, (fun h => (by cases h)), ?_⟩
        refine (callsIn_wide.2 HD.out).mono ?_
        rintro e W2 ⟨rfl, hS2, hG2⟩
        obtain ⟨fn, tmps, assign, body, hy, hR2⟩ := HY.out j W2 (HJ.out j wr W2 HJj.out hG2) hjm hS2
        have hRd : Reads (some ⟨bm, offm, none⟩) bs ba bp bc b off bv offv cL cV bm offm k cM c M W2 := by
          obtain ⟨n1, n2, n3, n4, n5, n6⟩ := hne
          have hh := HRj.out
          exact hh.same hG2.size (hG2.block _ (World.block_lt_of_cell? _ _ hh.ac) (by simpa using n1)) (hG2.block _ (World.block_lt_of_cell? _ _ hh.pc) (by simpa using n2)) (hG2.block _ hh.cur.cb (by simpa using n3)) (hG2.block _ hh.cur.pts.lb (by simpa using n4)) (hG2.block _ hh.cur.pts.vb (by simpa using n5)) (hG2.block _ (World.block_lt_of_cell? _ _ (hh.ms j hlt)) (by simpa using n6))
        have HS2 := Lib.hid hS2; clear hS2
        have HRd := Lib.hid hRd; clear hRd hG2
        have HR2 := Lib.hid hR2; clear hR2
        gi_wp2_with fail
        refine ⟨(fun h => (by cases h)), HR2.out.mono ?_⟩
        rintro e W3 ⟨rfl, hJ3, hk3⟩
        have HJ3 := Lib.hid hJ3; clear hJ3
        have Hk3 := Lib.hid hk3; clear hk3
        gi_wp2
        go_roundw
        case rel => exact ⟨j + 1, hjm, by go_num, HJ3.out, Hk3.out.s.trans HS2.out, HRd.out.same Hk3.out.size Hk3.out.a Hk3.out.p Hk3.out.c Hk3.out.l Hk3.out.v Hk3.out.m⟩
        case measure => simp [intOf]; omega
      · obtain rfl : j = m := by omega
        have HD := Lib.hid (draw_bad bs bc (c.potAt p M j) (M j) wr hSj (HST.out hlt))
        have HJj := Lib.hid hJj; clear hJj
        have HSj := Lib.hid hSj; clear hSj
        have HRj := Lib.hid hRj; clear hRj
        gi_wp2_with fail
        refine ⟨trivial, (fun h => (by cases h)), ?_⟩
        refine (callsIn_wide.2 HD.out).mono ?_
        rintro e W2 ⟨rfl, hB2⟩
        exact ⟨rfl, .inr ⟨hlt, rfl, HJ.out _ _ _ HJj.out (grownBy_of_below hB2 _)⟩⟩
    · obtain rfl : j = k := by omega
      obtain rfl : j = m := by omega
      have HJj := Lib.hid hJj; clear hJj
      have HSj := Lib.hid hSj; clear hSj
      clear hRj
      gi_wp2
      go_end0
      exact .inl ⟨rfl, ⟨_, rfl⟩, HJj.out, HSj.out⟩
end Go.Proofs.Ytnmldophadanbaa
