/- StillSplit: what the walk where the run goes through needs. No conditions beyond each theorem's own. -/
import Derived.Test.YtnmldophadanbaaMf
import Derived.Test.YtnmldophadanbaaMe
import Derived.Test.YtnmldophadanbaaMc
import Derived.Test.YtnmldophadanbaaMh
import Derived.Deep.RegionHeld3
import Derived.Deep.DeepCutAuto
set_option linter.unusedVariables false
set_option linter.unusedSimpArgs false
set_option linter.unusedSectionVars false
set_option linter.constructorNameAsVariable false
namespace Go.Proofs.Ytnmldophadanbaa
open Go.RowKit Go.Deep

attribute [local go_sem] gw_cell gw_frozen gw_size

theorem below_cell {W w1 : World} {b o : Nat} {v : Value} (hb : Below W.heap.size W w1) (h : W.cell? ⟨b, o, none⟩ = some v) : w1.cell? ⟨b, o, none⟩ = some v :=
  (hb.cell (p := ⟨b, o, none⟩) (World.block_lt_of_cell? W _ h)).trans h
theorem below_drew (W : World) : Below W.heap.size W W.drew := (Below.refl _ W).drew
theorem below_alloc_drew (W : World) (o : Obj) : Below W.heap.size W (W.alloc o).drew := (below_alloc W o).drew
/-- the first numbers of a slice -/
theorem slice_first {P : Program} {t : TypeId} (ht : P.underlying t = some (.slice (P.elem t))) (hs : ∀ w, (sizeOf (P.elem t)).run P w = .ok 1 w) {W : World} {aM : Option Addr} {k cM : Nat} {M : Nat → Int} (h : IntsAt W aM k M) (hk : k ≤ cM) (A : Nat) (hA : A ≤ k) :
    ∃ a', (∀ w, (Instr.slice t (.slice aM k cM) none (some (.int .i64 A)) none).run P w = .ok (.slice a' A cM) w) ∧ IntsAt W a' A M := by
  refine ⟨if cM = 0 then aM else aM.map (·.add (0 * 1)), fun w => ?_, ?_⟩
  · rw [run_slice_h w t aM k cM ht .i64 A (by omega) (by omega), hs w]
    simp [Result.andThen, sliced]
  · rcases h with h | ⟨b, off, rfl, hlt, hc⟩
    · exact .inl (by omega)
    · by_cases h0 : A = 0
      · exact .inl h0
      · rw [if_neg (by omega)]
        exact .inr ⟨b, off, by simp [WideShapes.add_plain], hlt, fun i hi => hc i (by omega)⟩
/-- the rest of a slice of numbers -/
theorem slice_rest {P : Program} {t : TypeId} (ht : P.underlying t = some (.slice (P.elem t))) (hs : ∀ w, (sizeOf (P.elem t)).run P w = .ok 1 w) {W : World} {aM : Option Addr} {k cM : Nat} {M : Nat → Int} (h : IntsAt W aM k M) (hk : k ≤ cM) (A : Nat) (hA : A ≤ k) :
    ∃ a', (∀ w, (Instr.slice t (.slice aM k cM) (some (.int .i64 A)) none none).run P w = .ok (.slice a' (k - A) (cM - A)) w) ∧ IntsAt W a' (k - A) (fun i => M (A + i)) := by
  refine ⟨if cM = A then aM else aM.map (·.add (A * 1)), fun w => ?_, ?_⟩
  · rw [run_slice_l w t aM k cM ht .i64 A (by omega) (by omega), hs w]
    simp [Result.andThen, sliced]
  · by_cases h0 : k - A = 0
    · exact .inl h0
    · rw [if_neg (by omega)]
      rcases h with h | ⟨b, off, rfl, hlt, hc⟩
      · exact .inl (by omega)
      · exact .inr ⟨b, off + A, by simp [WideShapes.add_plain], hlt, fun i hi => by have := hc (A + i) (by omega); rwa [← Nat.add_assoc] at this⟩

/-- behind the first part -/
structure Mid (c : Crv) (p : Pot3) (M : Nat → Int) (A : Nat) (W : World) (s13 s14 s15 : Value) (wx : World) : Prop where
  v : s15 = .int .i64 0
  row : wx.ownsRow W.heap.size 41 3 s13 A (c.outs p M A)
  box : ∃ B, s14 = .pointer (some ⟨B, 0, none⟩) ∧ wx.heap[B]? = some (.cells #[.int .i64 (c.potAt p M A).v, .int .i64 (c.potAt p M A).lo, .int .i64 (c.potAt p M A).hi] 29 (0, 0)) ∧ W.heap.size ≤ B
  low : Below W.heap.size W wx

theorem own_below {w w' : World} {base size n : Nat} {e : TypeId} {v : Value} {xs : List Value} (h : w.ownsRow base e size v n xs) (hb : Below w.heap.size w w') : w'.ownsRow base e size v n xs := by
  refine h.kept (grownBy_of_below hb none) ?_
  cases v.ownBlock with
  | none => exact .inl rfl
  | some g => exact .inr (by simp)
/-- what Draw returned -/
structure Out3 (X : Dr3) (W : World) (s19 s21 : Value) (wx : World) : Prop where
  v : s21 = .int .i64 0
  box : ∃ B, s19 = .pointer (some ⟨B, 0, none⟩) ∧ Box3 wx B X.d X.lo X.hi
  low : Below W.heap.size W wx
theorem block_set3 {W : World} {b : Nat} {a0 b0 c0 : Value} {t : TypeId} (h : W.heap[b]? = some (.cells #[a0, b0, c0] t (0, 0))) (x y z : Value) : (((W.setCell ⟨b, 0, none⟩ x).setCell ⟨b, 1, none⟩ y).setCell ⟨b, 2, none⟩ z).heap[b]? = some (.cells #[x, y, z] t (0, 0)) := block_set 2 z (block_set 1 y (block_set 0 x h))
theorem box3_block {W : World} {B : Nat} {x y z : Int} {t : TypeId} (h : W.heap[B]? = some (.cells #[.int .i64 x, .int .i64 y, .int .i64 z] t (0, 0))) : Box3 W B x y z :=
  ⟨cell_of_block h 0 (by simp), cell_of_block h 1 (by simp), cell_of_block h 2 (by simp), (Array.getElem?_eq_some_iff.1 h).1⟩
theorem set3_other {W : World} {b B : Nat} (h : b ≠ B) (x y z : Value) : (((W.setCell ⟨B, 0, none⟩ x).setCell ⟨B, 1, none⟩ y).setCell ⟨B, 2, none⟩ z).heap[b]? = W.heap[b]? := by
  rw [Below.heap_setCell _ _ _ _ (by simpa using h), Below.heap_setCell _ _ _ _ (by simpa using h), Below.heap_setCell _ _ _ _ (by simpa using h)]
section
variable {X : Dr3} {Y : Pot3} {V w1 : World} {t : TypeId} (hb : Below V.heap.size V w1) {a0 a1 a2 b0 b1 b2 : Value}
include hb
theorem below_set3 {B : Nat} (hB : V.heap.size ≤ B) (x y z : Value) : Below V.heap.size V (((w1.setCell ⟨B, 0, none⟩ x).setCell ⟨B, 1, none⟩ y).setCell ⟨B, 2, none⟩ z) := ((hb.setCell hB _).setCell hB _).setCell hB _
variable (X Y t) in
theorem out_A : Out3 X V (.pointer (some ⟨w1.heap.size, 0, none⟩)) (.int .i64 0) ((w1.alloc (.cells #[.int .i64 X.d, .int .i64 X.lo, .int .i64 X.hi] t)).alloc (.cells #[.int .i64 Y.v, .int .i64 Y.lo, .int .i64 Y.hi] 29)) :=
  ⟨rfl, ⟨_, rfl, box3_block ((Below.heap_alloc _ _ _ (by simp)).trans (World.alloc_heap_new w1 _))⟩, (hb.alloc hb.size _).alloc (by have := hb.size; simp; omega) _⟩
theorem out_B : Out3 X V (.pointer (some ⟨w1.heap.size + 1, 0, none⟩)) (.int .i64 0) ((w1.alloc (.cells #[.int .i64 Y.v, .int .i64 Y.lo, .int .i64 Y.hi] 29)).alloc (.cells #[.int .i64 X.d, .int .i64 X.lo, .int .i64 X.hi] t)) :=
  ⟨rfl, ⟨_, rfl, box3_block (t := t) (by have := World.alloc_heap_new (w1.alloc (.cells #[.int .i64 Y.v, .int .i64 Y.lo, .int .i64 Y.hi] 29)) (.cells #[.int .i64 X.d, .int .i64 X.lo, .int .i64 X.hi] t); rwa [World.size_alloc] at this)⟩, (hb.alloc hb.size _).alloc (by have := hb.size; simp; omega) _⟩
theorem out_C (k0 : w1.heap[V.heap.size]? = some (.cells #[a0, a1, a2] t (0, 0))) {o : Obj} : Out3 X V (.pointer (some ⟨V.heap.size, 0, none⟩)) (.int .i64 0) ((((w1.setCell ⟨V.heap.size, 0, none⟩ (.int .i64 X.d)).setCell ⟨V.heap.size, 1, none⟩ (.int .i64 X.lo)).setCell ⟨V.heap.size, 2, none⟩ (.int .i64 X.hi)).alloc o) :=
  ⟨rfl, ⟨_, rfl, box3_block ((Below.heap_alloc _ _ _ (by simpa using (Array.getElem?_eq_some_iff.1 k0).1)).trans (block_set3 k0 _ _ _))⟩, (below_set3 hb (Nat.le_refl _) _ _ _).alloc (by simpa using hb.size) _⟩
theorem out_D {u0 u1 u2 : Value} (k0 : w1.heap[V.heap.size]? = some (.cells #[a0, a1, a2] t (0, 0))) {t' : TypeId} (k1 : w1.heap[V.heap.size + 1]? = some (.cells #[b0, b1, b2] t' (0, 0))) :
    Out3 X V (.pointer (some ⟨V.heap.size, 0, none⟩)) (.int .i64 0) ((((((w1.setCell ⟨V.heap.size, 0, none⟩ (.int .i64 X.d)).setCell ⟨V.heap.size, 1, none⟩ (.int .i64 X.lo)).setCell ⟨V.heap.size, 2, none⟩ (.int .i64 X.hi)).setCell ⟨V.heap.size + 1, 0, none⟩ u0).setCell ⟨V.heap.size + 1, 1, none⟩ u1).setCell ⟨V.heap.size + 1, 2, none⟩ u2) :=
  ⟨rfl, ⟨_, rfl, box3_block ((set3_other (by omega) _ _ _).trans (block_set3 k0 _ _ _))⟩, below_set3 (below_set3 hb (Nat.le_refl _) _ _ _) (Nat.le_succ _) _ _ _⟩
theorem out_E {u0 u1 u2 : Value} (k0 : w1.heap[V.heap.size]? = some (.cells #[a0, a1, a2] t (0, 0))) {t' : TypeId} : Out3 X V (.pointer (some ⟨w1.heap.size, 0, none⟩)) (.int .i64 0) ((((w1.setCell ⟨V.heap.size, 0, none⟩ u0).setCell ⟨V.heap.size, 1, none⟩ u1).setCell ⟨V.heap.size, 2, none⟩ u2).alloc (.cells #[.int .i64 X.d, .int .i64 X.lo, .int .i64 X.hi] t')) :=
  ⟨rfl, ⟨_, rfl, box3_block (t := t') (by have := World.alloc_heap_new (((w1.setCell ⟨V.heap.size, 0, none⟩ u0).setCell ⟨V.heap.size, 1, none⟩ u1).setCell ⟨V.heap.size, 2, none⟩ u2) (.cells #[.int .i64 X.d, .int .i64 X.lo, .int .i64 X.hi] t'); simpa using this)⟩, (below_set3 hb (Nat.le_refl _) _ _ _).alloc (by simpa using hb.size) _⟩
theorem out_F {u0 u1 u2 : Value} (k0 : w1.heap[V.heap.size]? = some (.cells #[a0, a1, a2] t (0, 0))) {t' : TypeId} (k1 : w1.heap[V.heap.size + 1]? = some (.cells #[b0, b1, b2] t' (0, 0))) :
    Out3 X V (.pointer (some ⟨V.heap.size + 1, 0, none⟩)) (.int .i64 0) ((((((w1.setCell ⟨V.heap.size + 1, 0, none⟩ (.int .i64 X.d)).setCell ⟨V.heap.size + 1, 1, none⟩ (.int .i64 X.lo)).setCell ⟨V.heap.size + 1, 2, none⟩ (.int .i64 X.hi)).setCell ⟨V.heap.size, 0, none⟩ u0).setCell ⟨V.heap.size, 1, none⟩ u1).setCell ⟨V.heap.size, 2, none⟩ u2) :=
  ⟨rfl, ⟨_, rfl, box3_block ((set3_other (by omega) _ _ _).trans (block_set3 k1 _ _ _))⟩, below_set3 (below_set3 hb (Nat.le_succ _) _ _ _) (Nat.le_refl _) _ _ _⟩
end
theorem run_one {c : Crv} {p : Pot3} {M : Nat → Int} {k : Nat} (h : runErr c.n c p M k = 0) (hk : 0 < k) : runErr c.n c p (fun _ => M 0) 1 = 0 := by
  have h1 := run_first h (a := 1) (by omega)
  obtain ⟨hE, k64, _, g, hp, hgo, hok⟩ := run_zero h1
  exact zero_run hE fun j hj => by
    obtain rfl : j = 0 := by omega
    exact hgo 0 (by omega)
/-- behind the second part -/
structure Mid2 (E : Pot3) (O : List Value) (n : Nat) (W : World) (s13 s14 s15 : Value) (wx : World) : Prop where
  v : s15 = .int .i64 0
  row : wx.ownsRow W.heap.size 41 3 s13 n O
  box : ∃ B, s14 = .pointer (some ⟨B, 0, none⟩) ∧ wx.heap[B]? = some (.cells #[.int .i64 E.v, .int .i64 E.lo, .int .i64 E.hi] 29 (0, 0)) ∧ W.heap.size ≤ B
  low : Below W.heap.size W wx
theorem row_set3 {W : World} {base n B : Nat} {e : TypeId} {v : Value} {xs : List Value} (h : W.ownsRow base e 3 v n xs) (hB : v.ownBlock ≠ some B) (x y z : Value) : (((W.setCell ⟨B, 0, none⟩ x).setCell ⟨B, 1, none⟩ y).setCell ⟨B, 2, none⟩ z).ownsRow base e 3 v n xs :=
  h.kept (grownBy_trans (grownBy_trans (grownBy_set W B 0 x) (grownBy_set _ B 1 y)) (grownBy_set _ B 2 z)) (.inr hB)
theorem outs_one (c : Crv) (p : Pot3) (M : Nat → Int) (k : Nat) : ∀ u ∈ c.outs p M k, u.oneCell' = true := by
  intro u hu
  simp only [Crv.outs, List.mem_flatMap] at hu
  obtain ⟨i, _, h⟩ := hu
  simp [Dr3.cells] at h
  rcases h with rfl | rfl | rfl <;> rfl

end Go.Proofs.Ytnmldophadanbaa
