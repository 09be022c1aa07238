/- StillNarrower: the walk of the law where it is short: too long, or an error. No conditions beyond each theorem's own. -/
import Derived.Test.YtnmldophadanbaaWr
import Derived.Test.YtnmldophadanbaaKo
set_option linter.unusedVariables false
set_option linter.unusedSimpArgs false
set_option linter.unusedSectionVars false
set_option linter.constructorNameAsVariable false
namespace Go.Proofs.Ytnmldophadanbaa
open Go.RowKit

attribute [local go_sem] gw_cell gw_frozen gw_size

/-- a curve and a pot were boxed -/
structure NB (w W : World) (aL aV : Option Addr) (n m cL cV : Nat) (v lo hi : Int) : Prop where
  c0 : W.cell? ⟨w.heap.size, 0, none⟩ = some (.slice aL n cL)
  c1 : W.cell? ⟨w.heap.size, 1, none⟩ = some (.slice aV m cV)
  p0 : W.cell? ⟨w.heap.size + 1, 0, none⟩ = some (.int .i64 v)
  p1 : W.cell? ⟨w.heap.size + 1, 1, none⟩ = some (.int .i64 lo)
  p2 : W.cell? ⟨w.heap.size + 1, 2, none⟩ = some (.int .i64 hi)
  sz : w.heap.size + 2 ≤ W.heap.size
  low : Below w.heap.size w W
section
variable {w W W' : World} {aL aV : Option Addr} {n m cL cV : Nat} {v lo hi : Int}
theorem NB.s0 (h : NB w W aL aV n m cL cV v lo hi) : w.heap.size < W.heap.size := by have := h.sz; omega
theorem NB.s1 (h : NB w W aL aV n m cL cV v lo hi) : w.heap.size + 1 < W.heap.size := by have := h.sz; omega
theorem NB.below (h : NB w W aL aV n m cL cV v lo hi) (hb : Below W.heap.size W W') : NB w W' aL aV n m cL cV v lo hi :=
  ⟨(hb.cell (p := ⟨w.heap.size, 0, none⟩) h.s0).trans h.c0, (hb.cell (p := ⟨w.heap.size, 1, none⟩) h.s0).trans h.c1, (hb.cell (p := ⟨w.heap.size + 1, 0, none⟩) h.s1).trans h.p0, (hb.cell (p := ⟨w.heap.size + 1, 1, none⟩) h.s1).trans h.p1,
    (hb.cell (p := ⟨w.heap.size + 1, 2, none⟩) h.s1).trans h.p2, Nat.le_trans h.sz hb.size, thru hb h.low⟩
theorem NB.gw (h : NB w W aL aV n m cL cV v lo hi) (x : Grew) : NB w (Go.gw W x) aL aV n m cL cV v lo hi := h.below (below_gw W x)
theorem nb_of (w : World) (aL aV : Option Addr) (n m cL cV : Nat) (v lo hi : Int) (t t' : TypeId) : NB w ((w.alloc (.cells #[.slice aL n cL, .slice aV m cV] t)).alloc (.cells #[.int .i64 v, .int .i64 lo, .int .i64 hi] t')) aL aV n m cL cV v lo hi :=
  ⟨by simp [go_sem], by simp [go_sem], by simp [go_sem], by simp [go_sem], by simp [go_sem], by simp, ((Below.refl _ w).alloc (Nat.le_refl _) _).alloc (by simp) _⟩
end

theorem below_alloc (W : World) (o : Obj) : Below W.heap.size W (W.alloc o) := (Below.refl _ W).alloc (Nat.le_refl _) o

set_option maxRecDepth 100000 in
set_option maxHeartbeats 4000000 in
theorem narrower_long (aL aV aM : Option Addr) (n m k cL cV cM : Nat) (v lo hi a b : Int) (w : World) (hn : n ≤ 9223372036854775807) (hm : m ≤ 9223372036854775807) (hk : k ≤ 9223372036854775807) (h : longB n m k = true) :
    Calls Try.prog 3 #[.agg #[.slice aL n cL, .slice aV m cV], .agg #[.int .i64 v, .int .i64 lo, .int .i64 hi], .slice aM k cM, .int .u32 a, .int .u32 b] w (True1 w) := by
  have H := Lib.hid h; clear h
  go_enter Try.func3, Try.ntmps3
  go_wp2_with fail
  refine (long_b _ _ _ _ _ _ _ _ _ _ hn hm hk H.out).mono ?_
  rintro e w1 ⟨rfl, x, rfl⟩
  go_wp2_with fail
  refine (alive_any _).mono ?_
  rintro e w1 ⟨rfl, hb⟩
  have HB := Lib.hid (thru hb ((((Below.refl _ w).alloc (Nat.le_refl _) _).alloc (by simp) _).gw x)); clear hb
  go_wp2_with fail
  go_ret
  exact ⟨rfl, HB.out⟩

set_option maxRecDepth 100000 in
set_option maxHeartbeats 4000000 in
theorem narrower_err (aL aV aM : Option Addr) (m k cL cV cM : Nat) (c : Crv) (p : Pot3) (M : Nat → Int) (a b : Int) (w : World) (h : longB c.n m k = false) (hL : IntsAt w aL c.n c.L) (hV : SpansAt w aV m c.A c.B) (hM : IntsAt w aM k M)
    (x : Int) (hx : runErr m c p M k = x) (h0 : x ≠ 0) :
    Calls Try.prog 3 #[.agg #[.slice aL c.n cL, .slice aV m cV], .agg #[.int .i64 p.v, .int .i64 p.lo, .int .i64 p.hi], .slice aM k cM, .int .u32 a, .int .u32 b] w (True1 w) := by
  obtain ⟨k1, k2, k3⟩ := longB_f h
  have hx0 : (x != 0) = true := by simpa using h0
  have H := Lib.hid h; clear h
  obtain ⟨W2, hW2⟩ : ∃ W2, (w.alloc (.cells #[.slice aL c.n cL, .slice aV m cV] 25)).alloc (.cells #[.int .i64 p.v, .int .i64 p.lo, .int .i64 p.hi] 29) = W2 := ⟨_, rfl⟩
  have nb : NB w W2 aL aV c.n m cL cV p.v p.lo p.hi := by rw [← hW2]; exact nb_of w aL aV c.n m cL cV p.v p.lo p.hi _ _
  have HL := Lib.hid (hL.below nb.low); clear hL
  have HV := Lib.hid (hV.below nb.low); clear hV
  have HM := Lib.hid (hM.below nb.low); clear hM
  have HX := Lib.hid hx; clear hx
  have HW2 := Lib.hid hW2; clear hW2
  have NBH := Lib.hid nb
  obtain ⟨c0, c1, p0, p1, p2, _, _⟩ := nb
  have s0 := NBH.out.s0
  have s1 := NBH.out.s1
  go_enter Try.func3, Try.ntmps3
  go_wp2_with fail
  rw [HW2.out]
  refine (long_b _ _ _ _ _ _ _ _ _ _ (by omega) (by omega) (by omega) H.out).mono ?_
  rintro e w1 ⟨rfl, y, rfl⟩
  go_wp2_with fail
  have bl := below_gw W2 y
  refine (Calls.gw_of (run_err aL aV aM m cL cV k cM c p M (gw W2 y) (by omega) (by omega) (by omega) (HL.out.below bl) (HV.out.below bl) (HM.out.below bl) x HX.out h0)).mono ?_
  clear bl
  rintro e w1 ⟨rfl, z, rfl⟩
  go_wp2_with fail
  refine (alive_any _).mono ?_
  rintro e w1 ⟨rfl, hb⟩
  have HB := Lib.hid (thru hb ((NBH.out.low.gw z).alloc (NBH.out.low.gw z).size _)); clear hb
  go_wp2_with fail
  go_ret
  exact ⟨rfl, HB.out⟩
end Go.Proofs.Ytnmldophadanbaa
