/- Contracts of the reference's SameDrawn and Ints at equal lists. Plain law: a run that is cut in two. Contract of Heart. Contract of Heart where there is no error. Contract of still.Draw. Contract of still.Draw where there is no error. No conditions beyond each theorem its own. StillSplit: the walk of the law where it is short: too long, or an error. StillSplit: what the walk where the run goes through needs. No conditions beyond each theorem's own. -/
import Derived.Test.YticgkhoidgkejaaGg
import Derived.Test.YticgkhoidgkejaaGb
import Derived.StillTailTactics
import Derived.Deep.RegionHeld3
import Derived.Deep.DeepCutAuto
set_option linter.unusedVariables false
set_option linter.unusedSimpArgs false
set_option linter.unusedSectionVars false
set_option linter.constructorNameAsVariable false
namespace Go.Proofs.Yticgkhoidgkejaa
open Go.RowKit

attribute [local go_sem] gw_cell gw_frozen gw_size

set_option maxHeartbeats 1000000 in
theorem sameInts_t (a b : Option Addr) (n ca cb : Nat) (D : Nat → Int) (w : World) (hn : n ≤ 9223372036854775807) (hA : IntsAt w a n D) (hB : IntsAt w b n D) :
    Calls Try.prog 12 #[.slice a n ca, .slice b n cb] w fun e w' => e = .returned (.bool true) ∧ ∃ x, w' = gw w x := by
  have HA := Lib.hid hA; clear hA
  have HB := Lib.hid hB; clear hB
  go_enter Try.func12, Try.ntmps12
  go_wp2_with fail
  go_loopw [5] (fun i wr => ∃ k : Nat, k ≤ n ∧ i = .int .i64 k ∧ ∃ x, wr = gw w x) (fun i _ => n - (intOf i).toNat)
  case atStart => exact ⟨0, Nat.zero_le _, rfl, ⟨#[], w.drawn⟩, by simp [gw]⟩
  case round =>
    obtain ⟨k, hk, rfl, x, rfl⟩ := hrel
    by_cases hlt : k < n
    · obtain ⟨b1, o1, rfl, l1, h1⟩ := ints_get HA.out (by omega)
      obtain ⟨b2, o2, rfl, l2, h2⟩ := ints_get HB.out (by omega)
      have d1 := h1 k hlt
      have e1 := h2 k hlt
      clear h1 h2
      go_wp2_with fail
      refine wp_region_gw2 (by kernel_rfl) (by kernel_rfl) ?_
      repeat (go_big_quiet_step (fail))
      refine wpQuiet_nil ?_
      rintro _ ⟨z, rfl⟩
      go_wp2_with fail
      go_roundw
      case rel => exact ⟨k + 1, by omega, by go_num, z, rfl⟩
      case measure => simp [intOf]; omega
    · obtain rfl : n = k := by omega
      go_wp2_with fail
      go_ret
      exact ⟨rfl, x, rfl⟩
end Go.Proofs.Yticgkhoidgkejaa

namespace Go.Proofs.Yticgkhoidgkejaa

theorem Crv.pot_cut (c : Crv) (p : Pot3) (M : Nat → Int) (a : Nat) : ∀ j, c.potAt (c.potAt p M a) (fun i => M (a + i)) j = c.potAt p M (a + j)
  | 0 => rfl
  | j + 1 => by
    show c.next (c.potAt (c.potAt p M a) (fun i => M (a + i)) j) (M (a + j)) = c.next (c.potAt p M (a + j)) (M (a + j))
    rw [c.pot_cut p M a j]
theorem Crv.outs_cut (c : Crv) (p : Pot3) (M : Nat → Int) (a : Nat) : ∀ j, c.outs p M a ++ c.outs (c.potAt p M a) (fun i => M (a + i)) j = c.outs p M (a + j)
  | 0 => by simp [Crv.outs]
  | j + 1 => by
    rw [c.outs_succ, show a + (j + 1) = a + j + 1 from rfl, c.outs_succ, ← c.outs_cut p M a j, List.append_assoc]
    congr 2
    unfold Crv.outAt
    rw [c.pot_cut]

theorem zero_run {c : Crv} {p : Pot3} {M : Nat → Int} {k : Nat} (hE : earlyE c.n c.n c.L c.A c.B p.v p.lo p.hi k = 0) (h : ∀ j, j < k → c.errAt p M j = 0) : runErr c.n c p M k = 0 := by
  unfold runErr
  rw [if_neg (by omega)]
  split
  · rename_i hs
    exact absurd (h _ hs) (c.stop_bad p M k hs)
  · rfl
theorem early_ok {c : Crv} {p q : Pot3} {k j : Nat} (h : earlyE c.n c.n c.L c.A c.B p.v p.lo p.hi k = 0) (hq : q.ok) (hj : j ≤ 64) : earlyE c.n c.n c.L c.A c.B q.v q.lo q.hi j = 0 := by
  obtain ⟨q0, q1, q2, q3⟩ := hq
  unfold earlyE at h ⊢
  rw [if_neg (by omega)]
  split at h
  · omega
  · split at h
    · rename_i hc
      simp only [Bool.and_eq_true] at hc
      rw [hc.1, show potB q.v q.lo q.hi = true by unfold potB; rw [inB_t.2 ⟨by omega, by omega⟩, spanB_t.2 ⟨by omega, by omega, by omega⟩]; rfl]
      rfl
    · omega
theorem run_first {c : Crv} {p : Pot3} {M : Nat → Int} {k a : Nat} (h : runErr c.n c p M k = 0) (ha : a ≤ k) : runErr c.n c p M a = 0 := by
  obtain ⟨hE, k64, _, g, hp, hgo, hok⟩ := run_zero h
  exact zero_run (early_ok hE hp (by omega)) fun j hj => hgo j (by omega)
theorem run_second {c : Crv} {p : Pot3} {M : Nat → Int} {k a : Nat} (h : runErr c.n c p M k = 0) (ha : a ≤ k) : runErr c.n c (c.potAt p M a) (fun i => M (a + i)) (k - a) = 0 := by
  obtain ⟨hE, k64, _, g, hp, hgo, hok⟩ := run_zero h
  refine zero_run (early_ok hE (hok a ha) (by omega)) fun j hj => ?_
  have := hgo (a + j) (by omega)
  unfold Crv.errAt at this ⊢
  rw [c.pot_cut]; exact this
end Go.Proofs.Yticgkhoidgkejaa

namespace Go.Proofs.Yticgkhoidgkejaa
open Go.RowKit

attribute [local go_sem] gw_cell gw_frozen gw_size

/-- by how much the amounts from one on have more than the target, times 10000 -/
def heartO (D : Nat → Dr3) (f : Nat) (t : Int) : Nat → Int
  | 0 => 0
  | j + 1 => heartO D f t j + ((D (f + j)).lo * 10000 - t * (D (f + j)).d)
/-- the last amount with which the target is reached; -1: none -/
def heartB (D : Nat → Dr3) (f : Nat) (t : Int) : Nat → Int
  | 0 => -1
  | j + 1 => if 0 ≤ heartO D f t (j + 1) then f + j else heartB D f t j
def heartErr (m : Nat) (c : Crv) (p : Pot3) (M : Nat → Int) (k : Nat) (f t : Int) : Int :=
  if earlyE c.n m c.L c.A c.B p.v p.lo p.hi k ≠ 0 then earlyE c.n m c.L c.A c.B p.v p.lo p.hi k else if inB f 0 (k - 1) && inB t 1 10000 then runErr m c p M k else 2

section
variable (aL aV aM : Option Addr) (m cL cV k cM : Nat) (c : Crv) (p : Pot3) (M : Nat → Int) (f t : Int) (w : World)

end
end Go.Proofs.Yticgkhoidgkejaa

namespace Go.Proofs.Yticgkhoidgkejaa
open Go.RowKit

attribute [local go_sem] gw_cell gw_frozen gw_size

theorem drawn_of_own' {w : World} {base k : Nat} {e : TypeId} {c : Crv} {p : Pot3} {M : Nat → Int} {v : Value} (h : w.ownsRow base e 3 v k (c.outs p M k)) (hk : 0 < k) : ∃ b cap, v = .slice (some ⟨b, 0, none⟩) k cap ∧ k ≤ cap ∧ cap ≤ maxLen ∧ b < w.heap.size ∧ ∀ i, i < k → w.cell? ⟨b, 0 + i * 3, none⟩ = some (.int .i64 (c.outAt p M i).d) ∧ w.cell? ⟨b, 0 + i * 3 + 1, none⟩ = some (.int .i64 (c.outAt p M i).lo) ∧ w.cell? ⟨b, 0 + i * 3 + 2, none⟩ = some (.int .i64 (c.outAt p M i).hi) := by
  rcases h.2 with ⟨rfl, h0⟩ | ⟨g, cap, cur, rfl, hg, hgb, h1, h2, _⟩
  · omega
  · refine ⟨g, cap, rfl, h1, h2, (Array.getElem?_eq_some_iff.1 hgb).1, fun i hi => ?_⟩
    obtain ⟨q1, q2, q3⟩ := outs_get c p M k i hi
    simp only [Nat.zero_add]
    exact ⟨row_cells h _ _ q1, row_cells h _ _ q2, row_cells h _ _ q3⟩

theorem heartO_bound {D : Nat → Dr3} {f : Nat} {t : Int} (ht0 : 0 ≤ t) (ht : t ≤ 10000) : ∀ j : Nat, (∀ i, i < j → 0 ≤ (D (f + i)).lo ∧ (D (f + i)).lo ≤ 1073741824 ∧ 0 ≤ (D (f + i)).d ∧ (D (f + i)).d ≤ 1073741824) →
    -(j * 10737418240000 : Int) ≤ heartO D f t j ∧ heartO D f t j ≤ j * 10737418240000
  | 0, _ => by simp [heartO]
  | j + 1, h => by
    have ih := heartO_bound ht0 ht j fun i hi => h i (by omega)
    obtain ⟨h1, h2, h3, h4⟩ := h j (by omega)
    have a1 : 0 ≤ t * (D (f + j)).d := Int.mul_nonneg ht0 h3
    have a2 : t * (D (f + j)).d ≤ 10000 * 1073741824 := Int.mul_le_mul ht h4 h3 (by omega)
    unfold heartO
    have e : ((j + 1 : Nat) : Int) * 10737418240000 = j * 10737418240000 + 10737418240000 := by rw [Int.natCast_add, Int.add_mul]; simp
    omega
theorem heartB_range (D : Nat → Dr3) (f : Nat) (t : Int) : ∀ j : Nat, -1 ≤ heartB D f t j ∧ heartB D f t j < f + j ∨ heartB D f t j = -1
  | 0 => .inr rfl
  | j + 1 => by
    unfold heartB
    split
    · left; omega
    · rcases heartB_range D f t j with h | h
      · left; omega
      · right; exact h

/-- an ending of Heart -/
def HeartEnd (b : Int) (e : Ending) : Prop := e = .returned (if b < 0 then .tuple #[.int .i64 0, .int .i64 4] else .tuple #[.int .i64 b, .int .i64 0])

theorem heart_valid {m : Nat} {c : Crv} {p : Pot3} {M : Nat → Int} {k : Nat} {f t : Int} (h : heartErr m c p M k f t = 0) : earlyE c.n m c.L c.A c.B p.v p.lo p.hi k = 0 ∧ inB f 0 (k - 1) = true ∧ inB t 1 10000 = true ∧ runErr m c p M k = 0 := by
  unfold heartErr at h
  split at h
  · rename_i h1; exact absurd h h1
  · rename_i h1
    split at h
    · rename_i h2
      simp only [Bool.and_eq_true] at h2
      exact ⟨Decidable.byContradiction h1, h2.1, h2.2, h⟩
    · omega

end Go.Proofs.Yticgkhoidgkejaa

namespace Go.Proofs.Yticgkhoidgkejaa
open Go.RowKit

attribute [local go_sem] gw_cell gw_frozen gw_size

theorem drawn_own_base {w : World} {base k : Nat} {e : TypeId} {b cap : Nat} {xs : List Value} (h : w.ownsRow base e 3 (.slice (some ⟨b, 0, none⟩) k cap) k xs) (hk : 0 < k) : base ≤ b := by
  rcases h.2 with ⟨h1, h0⟩ | ⟨g, cap, cur, h1, hg, _⟩
  · omega
  · simp at h1; omega

section
variable (aL aV : Option Addr) (m cL cV : Nat) (c : Crv) (p : Pot3) (d : Int) (w : World)

/-- the world in which Draw calls Run -/
structure DB (w W : World) (aL aV : Option Addr) (n m cL cV : Nat) (v lo hi d : Int) : Prop where
  c0 : W.heap[w.heap.size + 1]? = some (.cells #[.int .i64 v, .int .i64 lo, .int .i64 hi] 29 (0, 0))
  d0 : W.heap[w.heap.size + 2]? = some (.cells #[.int .i64 0, .int .i64 0, .int .i64 0] 36 (0, 0))
  e0 : W.heap[w.heap.size + 3]? = some (.cells #[.int .i64 0, .int .i64 0, .int .i64 0] 29 (0, 0))
  s0 : W.heap[w.heap.size + 4]? = some (.cells #[.int .i64 d] 3 (0, 0))
  sz : w.heap.size + 5 ≤ W.heap.size
  low : Below w.heap.size w W

theorem db_of : DB w (((((w.alloc (.cells #[.slice aL c.n cL, .slice aV m cV] 25)).alloc (.cells #[.int .i64 p.v, .int .i64 p.lo, .int .i64 p.hi] 29)).alloc (.cells #[.int .i64 0, .int .i64 0, .int .i64 0] 36)).alloc (.cells #[.int .i64 0, .int .i64 0, .int .i64 0] 29)).alloc (.cells #[.int .i64 d] 3)) aL aV c.n m cL cV p.v p.lo p.hi d := by
  obtain ⟨z0, z1, z2, z3, z4, z5⟩ := five_blocks w (.cells #[.slice aL c.n cL, .slice aV m cV] 25) (.cells #[.int .i64 p.v, .int .i64 p.lo, .int .i64 p.hi] 29) (.cells #[.int .i64 0, .int .i64 0, .int .i64 0] 36) (.cells #[.int .i64 0, .int .i64 0, .int .i64 0] 29) (.cells #[.int .i64 d] 3)
  exact ⟨z2, z3, z4, z5, by rw [z0]; omega, (((((Below.refl _ w).alloc (Nat.le_refl _) _).alloc (by simp) _).alloc (by simp; omega) _).alloc (by simp; omega) _).alloc (by simp; omega) _⟩

theorem db_ints {w W : World} {aL aV : Option Addr} {n m cL cV : Nat} {v lo hi d : Int} (h : DB w W aL aV n m cL cV v lo hi d) : IntsAt W (some ⟨w.heap.size + 1 + 1 + 1 + 1, 0, none⟩) 1 (fun _ => d) :=
  .inr ⟨_, _, rfl, by have := h.sz; omega, fun i hi => by
    obtain rfl : i = 0 := by omega
    exact cell_of_block h.s0 0 (by simp)⟩

set_option maxRecDepth 100000 in
set_option maxHeartbeats 2000000 in
theorem drawF_err (hn : c.n ≤ 1000000000000) (hm : m ≤ 1000000000000) (hL : IntsAt w aL c.n c.L) (hV : SpansAt w aV m c.A c.B) (x : Int) (hx : runErr m c p (fun _ => d) 1 = x) (h0 : x ≠ 0) :
    Calls Try.prog 6 #[.agg #[.slice aL c.n cL, .slice aV m cV], .agg #[.int .i64 p.v, .int .i64 p.lo, .int .i64 p.hi], .int .i64 d] w fun e w' =>
      e = .returned (.tuple #[.agg #[.int .i64 0, .int .i64 0, .int .i64 0], .agg #[.int .i64 0, .int .i64 0, .int .i64 0], .int .i64 x]) ∧ Below w.heap.size w w' := by
  have hx0 : (x != 0) = true := by simpa using h0
  have HD := Lib.hid (db_of aL aV m cL cV c p d w)
  have HR := Lib.hid (fun (W : World) (hb : Below w.heap.size w W) (hI : IntsAt W (some ⟨w.heap.size + 1 + 1 + 1 + 1, 0, none⟩) 1 (fun _ => d)) => Calls.grown (run_err aL aV (some ⟨w.heap.size + 1 + 1 + 1 + 1, 0, none⟩) m cL cV 1 1 c p (fun _ => d) W hn hm (by omega) (hL.below hb) (hV.below hb) hI x hx h0))
  clear hL hV hx h0
  go_enter Try.func6, Try.ntmps6
  go_wp2_with fail
  generalize ((((w.alloc (.cells #[.slice aL c.n cL, .slice aV m cV] 25)).alloc (.cells #[.int .i64 p.v, .int .i64 p.lo, .int .i64 p.hi] 29)).alloc (.cells #[.int .i64 0, .int .i64 0, .int .i64 0] 36)).alloc (.cells #[.int .i64 0, .int .i64 0, .int .i64 0] 29)).alloc (.cells #[.int .i64 d] 3) = W at *
  refine (HR.out W HD.out.low (db_ints HD.out)).mono ?_
  clear HR
  rintro e w1 ⟨rfl, y, rfl⟩
  have K1 := (gw_block W y _ (Array.getElem?_eq_some_iff.1 HD.out.c0).1).trans HD.out.c0
  have K2 := (gw_block W y _ (Array.getElem?_eq_some_iff.1 HD.out.d0).1).trans HD.out.d0
  have K3 := (gw_block W y _ (Array.getElem?_eq_some_iff.1 HD.out.e0).1).trans HD.out.e0
  have HB := Lib.hid ((HD.out.low).gw y)
  generalize gw W y = V at *
  have p0 := cell_of_block K1 0 (by simp)
  have p1 := cell_of_block K1 1 (by simp)
  have p2 := cell_of_block K1 2 (by simp)
  have q0 := frozen_of_block K1 0
  have q1 := frozen_of_block K1 1
  have q2 := frozen_of_block K1 2
  have r0 := cell_of_block K2 0 (by simp)
  have r1 := cell_of_block K2 1 (by simp)
  have r2 := cell_of_block K2 2 (by simp)
  have s0 := frozen_of_block K2 0
  have s1 := frozen_of_block K2 1
  have s2 := frozen_of_block K2 2
  have t0 := cell_of_block K3 0 (by simp)
  have t1 := cell_of_block K3 1 (by simp)
  have t2 := cell_of_block K3 2 (by simp)
  have u0 := frozen_of_block K3 0
  have u1 := frozen_of_block K3 1
  have u2 := frozen_of_block K3 2
  simp at p0 p1 p2 r0 r1 r2 t0 t1 t2
  have K1 := Lib.hid K1
  have K2 := Lib.hid K2
  have K3 := Lib.hid K3
  go_wp2_with fail
  refine bodyPost_ret (v := .tuple #[.agg #[.int .i64 0, .int .i64 0, .int .i64 0], .agg #[.int .i64 0, .int .i64 0, .int .i64 0], .int .i64 x]) (by simp [results, Try.results6, go_sem, r0, r1, r2, t0, t1, t2]) rfl ⟨rfl, ?_⟩
  exact ((((((((HB.out.setCell (by simp) _).setCell (by simp) _).setCell (by simp) _).setCell (by simp; omega) _).setCell (by simp; omega) _).setCell (by simp; omega) _).setCell (by simp; omega) _).setCell (by simp; omega) _).setCell (by simp; omega) _
end
end Go.Proofs.Yticgkhoidgkejaa

namespace Go.Proofs.Yticgkhoidgkejaa
open Go.RowKit

attribute [local go_sem] gw_cell gw_frozen gw_size

section
variable (aL aV : Option Addr) (m cL cV : Nat) (c : Crv) (p : Pot3) (d : Int) (w : World)

set_option maxRecDepth 100000 in
set_option maxHeartbeats 2000000 in
theorem drawF_ok (hn : c.n ≤ 1000000000000) (hm : m ≤ 1000000000000) (hL : IntsAt w aL c.n c.L) (hV : SpansAt w aV m c.A c.B) (hx : runErr m c p (fun _ => d) 1 = 0) (X : Dr3) (Y : Pot3) (eX : X = c.outAt p (fun _ => d) 0) (eY : Y = c.potAt p (fun _ => d) 1) :
    Calls Try.prog 6 #[.agg #[.slice aL c.n cL, .slice aV m cV], .agg #[.int .i64 p.v, .int .i64 p.lo, .int .i64 p.hi], .int .i64 d] w fun e w' =>
      e = .returned (.tuple #[.agg #[.int .i64 X.d, .int .i64 X.lo, .int .i64 X.hi], .agg #[.int .i64 Y.v, .int .i64 Y.lo, .int .i64 Y.hi], .int .i64 0]) ∧ Below w.heap.size w w' := by
  have HD := Lib.hid (db_of aL aV m cL cV c p d w)
  have HR := Lib.hid (fun (W : World) (hb : Below w.heap.size w W) (hI : IntsAt W (some ⟨w.heap.size + 1 + 1 + 1 + 1, 0, none⟩) 1 (fun _ => d)) => run_ok aL aV (some ⟨w.heap.size + 1 + 1 + 1 + 1, 0, none⟩) m cL cV 1 1 c p (fun _ => d) W hn hm (hL.below hb) (hV.below hb) hI hx)
  rw [← eY] at HR
  have EX := Lib.hid eX
  clear hL hV hx eX eY
  go_enter Try.func6, Try.ntmps6
  go_wp2_with fail
  generalize ((((w.alloc (.cells #[.slice aL c.n cL, .slice aV m cV] 25)).alloc (.cells #[.int .i64 p.v, .int .i64 p.lo, .int .i64 p.hi] 29)).alloc (.cells #[.int .i64 0, .int .i64 0, .int .i64 0] 36)).alloc (.cells #[.int .i64 0, .int .i64 0, .int .i64 0] 29)).alloc (.cells #[.int .i64 d] 3) = W at *
  refine (HR.out W HD.out.low (db_ints HD.out)).mono ?_
  clear HR
  rintro e V ⟨vl, rfl, hown, hb1⟩
  obtain ⟨b, cap, rfl, cap1, cap2, lb, hD⟩ := drawn_of_own' hown (by omega)
  have bb := drawn_own_base hown (by omega)
  have sz := HD.out.sz
  have ne1 : b ≠ w.heap.size + 1 := by omega
  have ne2 : b ≠ w.heap.size + 1 + 1 := by omega
  have ne3 : b ≠ w.heap.size + 1 + 1 + 1 := by omega
  clear bb sz
  obtain ⟨l0, l1, l2⟩ := hD 0 (by omega)
  rw [← EX.out] at l0 l1 l2
  simp at l0 l1 l2
  clear hD hown
  have K1 := (hb1.block _ (Array.getElem?_eq_some_iff.1 HD.out.c0).1).trans HD.out.c0
  have K2 := (hb1.block _ (Array.getElem?_eq_some_iff.1 HD.out.d0).1).trans HD.out.d0
  have K3 := (hb1.block _ (Array.getElem?_eq_some_iff.1 HD.out.e0).1).trans HD.out.e0
  have HB := Lib.hid (thru hb1 HD.out.low)
  clear hb1
  have p0 := cell_of_block K1 0 (by simp)
  have p1 := cell_of_block K1 1 (by simp)
  have p2 := cell_of_block K1 2 (by simp)
  have q0 := frozen_of_block K1 0
  have q1 := frozen_of_block K1 1
  have q2 := frozen_of_block K1 2
  have r0 := cell_of_block K2 0 (by simp)
  have r1 := cell_of_block K2 1 (by simp)
  have r2 := cell_of_block K2 2 (by simp)
  have s0 := frozen_of_block K2 0
  have s1 := frozen_of_block K2 1
  have s2 := frozen_of_block K2 2
  have t0 := cell_of_block K3 0 (by simp)
  have t1 := cell_of_block K3 1 (by simp)
  have t2 := cell_of_block K3 2 (by simp)
  have u0 := frozen_of_block K3 0
  have u1 := frozen_of_block K3 1
  have u2 := frozen_of_block K3 2
  simp at p0 p1 p2 r0 r1 r2 t0 t1 t2
  have K1 := Lib.hid K1
  have K2 := Lib.hid K2
  have K3 := Lib.hid K3
  go_wp2_with fail
  go_region
  all_goals
    go_wp2_with fail
    refine bodyPost_ret (v := .tuple #[.agg #[.int .i64 X.d, .int .i64 X.lo, .int .i64 X.hi], .agg #[.int .i64 Y.v, .int .i64 Y.lo, .int .i64 Y.hi], .int .i64 0]) (by simp [results, Try.results6, go_sem, r0, r1, r2, t0, t1, t2]) rfl ⟨rfl, ?_⟩
    exact (((((((((HB.out.setCell (by simp) _).setCell (by simp) _).setCell (by simp) _).setCell (by simp; omega) _).setCell (by simp; omega) _).setCell (by simp; omega) _).setCell (by simp; omega) _).setCell (by simp; omega) _).setCell (by simp; omega) _).drew
end
end Go.Proofs.Yticgkhoidgkejaa

namespace Go.Proofs.Yticgkhoidgkejaa
open Go.RowKit

attribute [local go_sem] gw_cell gw_frozen gw_size

end Go.Proofs.Yticgkhoidgkejaa

namespace Go.Proofs.Yticgkhoidgkejaa
open Go.RowKit Go.Deep

attribute [local go_sem] gw_cell gw_frozen gw_size

theorem below_cell {W w1 : World} {b o : Nat} {v : Value} (hb : Below W.heap.size W w1) (h : W.cell? ⟨b, o, none⟩ = some v) : w1.cell? ⟨b, o, none⟩ = some v :=
  (hb.cell (p := ⟨b, o, none⟩) (World.block_lt_of_cell? W _ h)).trans h
theorem below_drew (W : World) : Below W.heap.size W W.drew := (Below.refl _ W).drew
theorem below_alloc_drew (W : World) (o : Obj) : Below W.heap.size W (W.alloc o).drew := (below_alloc W o).drew
/-- the first numbers of a slice -/
theorem slice_first {P : Program} {t : TypeId} (ht : P.underlying t = some (.slice (P.elem t))) (hs : ∀ w, (sizeOf (P.elem t)).run P w = .ok 1 w) {W : World} {aM : Option Addr} {k cM : Nat} {M : Nat → Int} (h : IntsAt W aM k M) (hk : k ≤ cM) (A : Nat) (hA : A ≤ k) :
    ∃ a', (∀ w, (Instr.slice t (.slice aM k cM) none (some (.int .i64 A)) none).run P w = .ok (.slice a' A cM) w) ∧ IntsAt W a' A M := by
  refine ⟨if cM = 0 then aM else aM.map (·.add (0 * 1)), fun w => ?_, ?_⟩
  · rw [run_slice_h w t aM k cM ht .i64 A (by omega) (by omega), hs w]
    simp [Result.andThen, sliced]
  · rcases h with h | ⟨b, off, rfl, hlt, hc⟩
    · exact .inl (by omega)
    · by_cases h0 : A = 0
      · exact .inl h0
      · rw [if_neg (by omega)]
        exact .inr ⟨b, off, by simp [WideShapes.add_plain], hlt, fun i hi => hc i (by omega)⟩
/-- the rest of a slice of numbers -/
theorem slice_rest {P : Program} {t : TypeId} (ht : P.underlying t = some (.slice (P.elem t))) (hs : ∀ w, (sizeOf (P.elem t)).run P w = .ok 1 w) {W : World} {aM : Option Addr} {k cM : Nat} {M : Nat → Int} (h : IntsAt W aM k M) (hk : k ≤ cM) (A : Nat) (hA : A ≤ k) :
    ∃ a', (∀ w, (Instr.slice t (.slice aM k cM) (some (.int .i64 A)) none none).run P w = .ok (.slice a' (k - A) (cM - A)) w) ∧ IntsAt W a' (k - A) (fun i => M (A + i)) := by
  refine ⟨if cM = A then aM else aM.map (·.add (A * 1)), fun w => ?_, ?_⟩
  · rw [run_slice_l w t aM k cM ht .i64 A (by omega) (by omega), hs w]
    simp [Result.andThen, sliced]
  · by_cases h0 : k - A = 0
    · exact .inl h0
    · rw [if_neg (by omega)]
      rcases h with h | ⟨b, off, rfl, hlt, hc⟩
      · exact .inl (by omega)
      · exact .inr ⟨b, off + A, by simp [WideShapes.add_plain], hlt, fun i hi => by have := hc (A + i) (by omega); rwa [← Nat.add_assoc] at this⟩

/-- behind the first part -/
structure Mid (c : Crv) (p : Pot3) (M : Nat → Int) (A : Nat) (W : World) (s13 s14 s15 : Value) (wx : World) : Prop where
  v : s15 = .int .i64 0
  row : wx.ownsRow W.heap.size 36 3 s13 A (c.outs p M A)
  box : ∃ B, s14 = .pointer (some ⟨B, 0, none⟩) ∧ wx.heap[B]? = some (.cells #[.int .i64 (c.potAt p M A).v, .int .i64 (c.potAt p M A).lo, .int .i64 (c.potAt p M A).hi] 29 (0, 0)) ∧ W.heap.size ≤ B
  low : Below W.heap.size W wx

theorem own_below {w w' : World} {base size n : Nat} {e : TypeId} {v : Value} {xs : List Value} (h : w.ownsRow base e size v n xs) (hb : Below w.heap.size w w') : w'.ownsRow base e size v n xs := by
  refine h.kept (grownBy_of_below hb none) ?_
  cases v.ownBlock with
  | none => exact .inl rfl
  | some g => exact .inr (by simp)
/-- what Draw returned -/
structure Out3 (X : Dr3) (W : World) (s19 s21 : Value) (wx : World) : Prop where
  v : s21 = .int .i64 0
  box : ∃ B, s19 = .pointer (some ⟨B, 0, none⟩) ∧ Box3 wx B X.d X.lo X.hi
  low : Below W.heap.size W wx
theorem block_set3 {W : World} {b : Nat} {a0 b0 c0 : Value} {t : TypeId} (h : W.heap[b]? = some (.cells #[a0, b0, c0] t (0, 0))) (x y z : Value) : (((W.setCell ⟨b, 0, none⟩ x).setCell ⟨b, 1, none⟩ y).setCell ⟨b, 2, none⟩ z).heap[b]? = some (.cells #[x, y, z] t (0, 0)) := block_set 2 z (block_set 1 y (block_set 0 x h))
theorem box3_block {W : World} {B : Nat} {x y z : Int} {t : TypeId} (h : W.heap[B]? = some (.cells #[.int .i64 x, .int .i64 y, .int .i64 z] t (0, 0))) : Box3 W B x y z :=
  ⟨cell_of_block h 0 (by simp), cell_of_block h 1 (by simp), cell_of_block h 2 (by simp), (Array.getElem?_eq_some_iff.1 h).1⟩
theorem set3_other {W : World} {b B : Nat} (h : b ≠ B) (x y z : Value) : (((W.setCell ⟨B, 0, none⟩ x).setCell ⟨B, 1, none⟩ y).setCell ⟨B, 2, none⟩ z).heap[b]? = W.heap[b]? := by
  rw [Below.heap_setCell _ _ _ _ (by simpa using h), Below.heap_setCell _ _ _ _ (by simpa using h), Below.heap_setCell _ _ _ _ (by simpa using h)]
section
variable {X : Dr3} {Y : Pot3} {V w1 : World} {t : TypeId} (hb : Below V.heap.size V w1) {a0 a1 a2 b0 b1 b2 : Value}
include hb
theorem below_set3 {B : Nat} (hB : V.heap.size ≤ B) (x y z : Value) : Below V.heap.size V (((w1.setCell ⟨B, 0, none⟩ x).setCell ⟨B, 1, none⟩ y).setCell ⟨B, 2, none⟩ z) := ((hb.setCell hB _).setCell hB _).setCell hB _
variable (X Y t) in
theorem out_A : Out3 X V (.pointer (some ⟨w1.heap.size, 0, none⟩)) (.int .i64 0) ((w1.alloc (.cells #[.int .i64 X.d, .int .i64 X.lo, .int .i64 X.hi] t)).alloc (.cells #[.int .i64 Y.v, .int .i64 Y.lo, .int .i64 Y.hi] 29)) :=
  ⟨rfl, ⟨_, rfl, box3_block ((Below.heap_alloc _ _ _ (by simp)).trans (World.alloc_heap_new w1 _))⟩, (hb.alloc hb.size _).alloc (by have := hb.size; simp; omega) _⟩
theorem out_B : Out3 X V (.pointer (some ⟨w1.heap.size + 1, 0, none⟩)) (.int .i64 0) ((w1.alloc (.cells #[.int .i64 Y.v, .int .i64 Y.lo, .int .i64 Y.hi] 29)).alloc (.cells #[.int .i64 X.d, .int .i64 X.lo, .int .i64 X.hi] t)) :=
  ⟨rfl, ⟨_, rfl, box3_block (t := t) (by have := World.alloc_heap_new (w1.alloc (.cells #[.int .i64 Y.v, .int .i64 Y.lo, .int .i64 Y.hi] 29)) (.cells #[.int .i64 X.d, .int .i64 X.lo, .int .i64 X.hi] t); rwa [World.size_alloc] at this)⟩, (hb.alloc hb.size _).alloc (by have := hb.size; simp; omega) _⟩
theorem out_C (k0 : w1.heap[V.heap.size]? = some (.cells #[a0, a1, a2] t (0, 0))) {o : Obj} : Out3 X V (.pointer (some ⟨V.heap.size, 0, none⟩)) (.int .i64 0) ((((w1.setCell ⟨V.heap.size, 0, none⟩ (.int .i64 X.d)).setCell ⟨V.heap.size, 1, none⟩ (.int .i64 X.lo)).setCell ⟨V.heap.size, 2, none⟩ (.int .i64 X.hi)).alloc o) :=
  ⟨rfl, ⟨_, rfl, box3_block ((Below.heap_alloc _ _ _ (by simpa using (Array.getElem?_eq_some_iff.1 k0).1)).trans (block_set3 k0 _ _ _))⟩, (below_set3 hb (Nat.le_refl _) _ _ _).alloc (by simpa using hb.size) _⟩
theorem out_D {u0 u1 u2 : Value} (k0 : w1.heap[V.heap.size]? = some (.cells #[a0, a1, a2] t (0, 0))) {t' : TypeId} (k1 : w1.heap[V.heap.size + 1]? = some (.cells #[b0, b1, b2] t' (0, 0))) :
    Out3 X V (.pointer (some ⟨V.heap.size, 0, none⟩)) (.int .i64 0) ((((((w1.setCell ⟨V.heap.size, 0, none⟩ (.int .i64 X.d)).setCell ⟨V.heap.size, 1, none⟩ (.int .i64 X.lo)).setCell ⟨V.heap.size, 2, none⟩ (.int .i64 X.hi)).setCell ⟨V.heap.size + 1, 0, none⟩ u0).setCell ⟨V.heap.size + 1, 1, none⟩ u1).setCell ⟨V.heap.size + 1, 2, none⟩ u2) :=
  ⟨rfl, ⟨_, rfl, box3_block ((set3_other (by omega) _ _ _).trans (block_set3 k0 _ _ _))⟩, below_set3 (below_set3 hb (Nat.le_refl _) _ _ _) (Nat.le_succ _) _ _ _⟩
theorem out_E {u0 u1 u2 : Value} (k0 : w1.heap[V.heap.size]? = some (.cells #[a0, a1, a2] t (0, 0))) {t' : TypeId} : Out3 X V (.pointer (some ⟨w1.heap.size, 0, none⟩)) (.int .i64 0) ((((w1.setCell ⟨V.heap.size, 0, none⟩ u0).setCell ⟨V.heap.size, 1, none⟩ u1).setCell ⟨V.heap.size, 2, none⟩ u2).alloc (.cells #[.int .i64 X.d, .int .i64 X.lo, .int .i64 X.hi] t')) :=
  ⟨rfl, ⟨_, rfl, box3_block (t := t') (by have := World.alloc_heap_new (((w1.setCell ⟨V.heap.size, 0, none⟩ u0).setCell ⟨V.heap.size, 1, none⟩ u1).setCell ⟨V.heap.size, 2, none⟩ u2) (.cells #[.int .i64 X.d, .int .i64 X.lo, .int .i64 X.hi] t'); simpa using this)⟩, (below_set3 hb (Nat.le_refl _) _ _ _).alloc (by simpa using hb.size) _⟩
theorem out_F {u0 u1 u2 : Value} (k0 : w1.heap[V.heap.size]? = some (.cells #[a0, a1, a2] t (0, 0))) {t' : TypeId} (k1 : w1.heap[V.heap.size + 1]? = some (.cells #[b0, b1, b2] t' (0, 0))) :
    Out3 X V (.pointer (some ⟨V.heap.size + 1, 0, none⟩)) (.int .i64 0) ((((((w1.setCell ⟨V.heap.size + 1, 0, none⟩ (.int .i64 X.d)).setCell ⟨V.heap.size + 1, 1, none⟩ (.int .i64 X.lo)).setCell ⟨V.heap.size + 1, 2, none⟩ (.int .i64 X.hi)).setCell ⟨V.heap.size, 0, none⟩ u0).setCell ⟨V.heap.size, 1, none⟩ u1).setCell ⟨V.heap.size, 2, none⟩ u2) :=
  ⟨rfl, ⟨_, rfl, box3_block ((set3_other (by omega) _ _ _).trans (block_set3 k1 _ _ _))⟩, below_set3 (below_set3 hb (Nat.le_succ _) _ _ _) (Nat.le_refl _) _ _ _⟩
end
theorem run_one {c : Crv} {p : Pot3} {M : Nat → Int} {k : Nat} (h : runErr c.n c p M k = 0) (hk : 0 < k) : runErr c.n c p (fun _ => M 0) 1 = 0 := by
  have h1 := run_first h (a := 1) (by omega)
  obtain ⟨hE, k64, _, g, hp, hgo, hok⟩ := run_zero h1
  exact zero_run hE fun j hj => by
    obtain rfl : j = 0 := by omega
    exact hgo 0 (by omega)
/-- behind the second part -/
structure Mid2 (E : Pot3) (O : List Value) (n : Nat) (W : World) (s13 s14 s15 : Value) (wx : World) : Prop where
  v : s15 = .int .i64 0
  row : wx.ownsRow W.heap.size 36 3 s13 n O
  box : ∃ B, s14 = .pointer (some ⟨B, 0, none⟩) ∧ wx.heap[B]? = some (.cells #[.int .i64 E.v, .int .i64 E.lo, .int .i64 E.hi] 29 (0, 0)) ∧ W.heap.size ≤ B
  low : Below W.heap.size W wx
theorem row_set3 {W : World} {base n B : Nat} {e : TypeId} {v : Value} {xs : List Value} (h : W.ownsRow base e 3 v n xs) (hB : v.ownBlock ≠ some B) (x y z : Value) : (((W.setCell ⟨B, 0, none⟩ x).setCell ⟨B, 1, none⟩ y).setCell ⟨B, 2, none⟩ z).ownsRow base e 3 v n xs :=
  h.kept (grownBy_trans (grownBy_trans (grownBy_set W B 0 x) (grownBy_set _ B 1 y)) (grownBy_set _ B 2 z)) (.inr hB)
theorem outs_one (c : Crv) (p : Pot3) (M : Nat → Int) (k : Nat) : ∀ u ∈ c.outs p M k, u.oneCell' = true := by
  intro u hu
  simp only [Crv.outs, List.mem_flatMap] at hu
  obtain ⟨i, _, h⟩ := hu
  simp [Dr3.cells] at h
  rcases h with rfl | rfl | rfl <;> rfl

end Go.Proofs.Yticgkhoidgkejaa
