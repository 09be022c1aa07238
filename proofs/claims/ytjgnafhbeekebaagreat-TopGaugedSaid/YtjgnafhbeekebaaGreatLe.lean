/- Contracts of the library (Clone, DeleteFunc, Mul64, LeadingZeros64) laid at this program. Contract of what gives the marks of a span. Contracts of corners and of its iterator. No conditions beyond each theorem's own. -/
import Derived.Test.YtjgnafhbeekebaaGreatLd
import Derived.Test.YtjgnafhbeekebaaGreatAm
import Derived.Test.YtjgnafhbeekebaaGreatAx
import Derived.Shelf.SlicesE.DeleteFunc
import Derived.Shelf.SlicesE.Clone
import Derived.Shelf.Bits.Mul64
import Derived.Shelf.Small.Bits
import Derived.Lib.OwnBridge
import Derived.Laws.EntriesVeiled
import Derived.WalkMore
set_option linter.unusedVariables false
set_option linter.unusedSimpArgs false
set_option linter.unusedSectionVars false
set_option linter.constructorNameAsVariable false
namespace Go.Proofs.YtjgnafhbeekebaaGreat.L1
open Go.Shelf
def dflL_ren : Go.Shelf.Ren := ⟨fun | 10 => 82 | 6 => 79 | n => n, fun | 22 => 22 | 23 => 3 | 25 => 90 | 3 => 3 | 4 => 4 | 0 => 0 | n => n, fun | n => n⟩
theorem dflL : Go.Proofs.SlLaysH.n10 Tryz.prog dflL_ren := {
  mixed := by kernel_rfl
  f6 := ⟨Tryz.f79.name, by decide, Tryz.func79.trans (congrArg some (by kernel_rfl))⟩
  f10 := ⟨Tryz.f82.name, by decide, Tryz.func82.trans (congrArg some (by kernel_rfl))⟩
  t0 := Tryz.underlying0
  a0 := Tryz.isAgg0
  z0 := Tryz.sizeOf0
  v0 := Tryz.zeroValue0
  t3 := Tryz.underlying3
  a3 := Tryz.isAgg3
  z3 := Tryz.sizeOf3
  v3 := Tryz.zeroValue3
  t4 := Tryz.underlying4
  a4 := Tryz.isAgg4
  z4 := Tryz.sizeOf4
  v4 := Tryz.zeroValue4
  t22 := Tryz.underlying22
  a22 := Tryz.isAgg22
  z22 := Tryz.sizeOf22
  v22 := Tryz.zeroValue22
  a23 := Tryz.isAgg3
  z23 := Tryz.sizeOf3
  t25 := Tryz.underlying90
  a25 := Tryz.isAgg90
  z25 := Tryz.sizeOf90
  v25 := Tryz.zeroValue90 }
def clnL_ren : Go.Shelf.Ren := ⟨fun | 41 => 83 | n => n, fun | 22 => 22 | 23 => 3 | 4 => 4 | n => n, fun | n => n⟩
theorem clnL : Go.Proofs.SlLaysE0.n41 Tryz.prog clnL_ren := {
  mixed := by kernel_rfl
  f41 := ⟨Tryz.f83.name, by decide, Tryz.func83.trans (congrArg some (by kernel_rfl))⟩
  t4 := Tryz.underlying4
  a4 := Tryz.isAgg4
  z4 := Tryz.sizeOf4
  v4 := Tryz.zeroValue4
  t22 := Tryz.underlying22
  a22 := Tryz.isAgg22
  z22 := Tryz.sizeOf22
  v22 := Tryz.zeroValue22 }
def mulL_ren : Go.Shelf.Ren := ⟨fun | 264 => 75 | n => n, fun | 53 => 113 | 46 => 112 | n => n, fun | n => n⟩
theorem mulL : Go.Proofs.Lays.n264 Tryz.prog mulL_ren := {
  mixed := by kernel_rfl
  f264 := Tryz.func75.trans (congrArg some (by kernel_rfl))
  t46 := Tryz.underlying112
  a46 := Tryz.isAgg112
  z46 := Tryz.sizeOf112
  v46 := Tryz.zeroValue112
  t53 := Tryz.underlying113
  a53 := Tryz.isAgg113
  z53 := Tryz.sizeOf113
  v53 := Tryz.zeroValue113 }
def lzL_ren : Go.Shelf.Ren := ⟨fun | 134 => 87 | 129 => 98 | n => n, fun | 53 => 113 | 3 => 3 | 4 => 4 | 46 => 112 | 5 => 5 | 9 => 9 | n => n, fun | n => n⟩
theorem lzL : Go.Proofs.Lays.n134 Tryz.prog lzL_ren := {
  mixed := by kernel_rfl
  f129 := Tryz.func98.trans (congrArg some (by kernel_rfl))
  f134 := Tryz.func87.trans (congrArg some (by kernel_rfl))
  t3 := Tryz.underlying3
  a3 := Tryz.isAgg3
  z3 := Tryz.sizeOf3
  v3 := Tryz.zeroValue3
  t4 := Tryz.underlying4
  a4 := Tryz.isAgg4
  z4 := Tryz.sizeOf4
  v4 := Tryz.zeroValue4
  t5 := Tryz.underlying5
  a5 := Tryz.isAgg5
  z5 := Tryz.sizeOf5
  v5 := Tryz.zeroValue5
  t9 := Tryz.underlying9
  a9 := Tryz.isAgg9
  z9 := Tryz.sizeOf9
  v9 := Tryz.zeroValue9
  t46 := Tryz.underlying112
  a46 := Tryz.isAgg112
  z46 := Tryz.sizeOf112
  v46 := Tryz.zeroValue112
  t53 := Tryz.underlying113
  a53 := Tryz.isAgg113
  z53 := Tryz.sizeOf113
  v53 := Tryz.zeroValue113 }

open Go.RowKit
open Go.Lib
open Go.Sort
open Go.Proofs.YtjgnafhbeekebaaGreat

attribute [local go_sem] gw_cell gw_frozen gw_size

theorem infoI : (Tryz.prog.info? 3).map (fun i => (i.zero, i.size, i.bytes)) = some (some (.int .i64 0), 1, 8) := by kernel_rfl

set_option maxHeartbeats 1000000 in
theorem inner_gives (bs : Nat) (lo hi x : Int) (W : World) (h0 : W.cell? ⟨bs, 0, none⟩ = some (.int .i64 lo)) (h1 : W.cell? ⟨bs, 1, none⟩ = some (.int .i64 hi)) :
    FnGives Tryz.prog 84 #[.pointer (some ⟨bs, 0, none⟩)] #[.int .i64 x] (.bool (!inB x lo hi)) W := by
  show Calls Tryz.prog 84 #[.int .i64 x, .pointer (some ⟨bs, 0, none⟩)] W _
  have WI := Lib.hid (within_any x lo hi W)
  generalize inB x lo hi = B at *
  go_enter Tryz.func84, Tryz.ntmps84
  go_wp2_with fail
  refine WI.out.mono ?_
  rintro e w1 ⟨rfl, rfl⟩
  go_wp2_with fail
  go_ret
  exact ⟨rfl, 0, rfl⟩

theorem marks_list (L : Nat → Int) (n : Nat) (lo hi : Int) : (((List.range n).map L).filter (fun x => inB x lo hi)).map (Value.int .i64) ++ [.int .i64 lo, .int .i64 hi] = (List.range (marksP L n lo hi).length).map fun i => .int .i64 ((marksP L n lo hi).getD i 0) := by
  have e : (((List.range n).map L).filter (fun x => inB x lo hi)).map (Value.int .i64) ++ [.int .i64 lo, .int .i64 hi] = (marksP L n lo hi).map (Value.int .i64) := by simp [marksP]
  rw [e]
  apply List.ext_getElem?
  intro j
  rw [List.getElem?_map, List.getElem?_map]
  rcases Nat.lt_or_ge j (marksP L n lo hi).length with h | h
  · rw [List.getElem?_range h, List.getElem?_eq_getElem h]; simp [h]
  · rw [List.getElem?_eq_none h, List.getElem?_eq_none (by simpa using h)]; rfl

set_option maxRecDepth 100000 in
set_option maxHeartbeats 2000000 in
theorem marks_any (b off n c : Nat) (L : Nat → Int) (lo hi : Int) (w : World) (hn : n ≤ 32) (hb : b < w.heap.size) (hc : ∀ i, i < n → w.cell? ⟨b, off + i, none⟩ = some (.int .i64 (L i))) :
    Calls Tryz.prog 81 #[.slice (some ⟨b, off, none⟩) n c, .agg #[.int .i64 lo, .int .i64 hi]] w fun e w' =>
      ∃ g c2, e = .returned (.slice (some ⟨g, 0, none⟩) (marksP L n lo hi).length c2) ∧ w.heap.size ≤ g ∧ g < w'.heap.size ∧ (∀ i, i < (marksP L n lo hi).length → w'.cell? ⟨g, i, none⟩ = some (.int .i64 ((marksP L n lo hi).getD i 0))) ∧ Below w.heap.size w w' := by
  have hmf : ∀ (fn : Fn) (first cap : Array Value) (w : World), (Instr.makeFunc fn first cap).run Tryz.prog w = .ok (.func fn first cap) w := fun _ _ _ _ => rfl
  obtain ⟨i0, hi0, hx0, hx1, hx2⟩ := info_parts infoI
  obtain ⟨W1, hW1⟩ : ∃ W1, w.alloc (.cells #[.int .i64 lo, .int .i64 hi] 27) = W1 := ⟨_, rfl⟩
  have hBc : Below w.heap.size w W1 := by rw [← hW1]; exact below_alloc _ _
  have zc0 : W1.heap[w.heap.size]? = some (.cells #[.int .i64 lo, .int .i64 hi] 27 (0, 0)) := by rw [← hW1]; exact alloc_at rfl
  have c00 : W1.cell? ⟨w.heap.size, 0, none⟩ = some (.int .i64 lo) := cell_of_block zc0 0 (by simp)
  have c01 : W1.cell? ⟨w.heap.size, 1, none⟩ = some (.int .i64 hi) := cell_of_block zc0 1 (by simp)
  have lc0 := (Array.getElem?_eq_some_iff.1 zc0).1
  clear zc0
  have HBc := Lib.hid hBc; clear hBc
  have HWc := Lib.hid hW1; clear hW1
  obtain ⟨zs, HZ⟩ : ∃ zs : List Int, Hid (zs = (List.range n).map L) := ⟨_, Lib.hid rfl⟩
  have lz : zs.length = n := by rw [HZ.out]; simp
  have hcl := AnyE.slices_Clone clnL i0 (.int .i64 0) 1 8 hi0 hx0 hx1 hx2 (by rfl) (by decide) (fun w => Tryz.sizeOf3 w) b off n c (zs.map (Value.int .i64)) W1 (by simp [lz]) (by unfold maxLen; omega) (by omega)
    (fun j u hu => by
      rw [HZ.out, List.map_map, List.getElem?_map] at hu
      rcases Nat.lt_or_ge j n with h | h
      · rw [List.getElem?_range h] at hu
        simp only [Option.map_some, Option.some.injEq] at hu
        rw [← hu]
        exact below_cell HBc.out (hc j h)
      · rw [List.getElem?_eq_none (by simpa using h)] at hu; cases hu)
    (fun u hu => by
      simp only [List.mem_map] at hu
      obtain ⟨x, _, rfl⟩ := hu
      rfl)
  change Calls Tryz.prog 83 _ _ _ at hcl
  have HCL := Lib.hid hcl; clear hcl
  have II := Lib.hid hi0; have IZ0 := Lib.hid hx0; have IZ1 := Lib.hid hx1; have IZ2 := Lib.hid hx2; clear hi0 hx0 hx1 hx2 hc
  go_enter Tryz.func81, Tryz.ntmps81
  go_upto_region 1 with (fail)
  rw [HWc.out]
  go_wp2_with fail
  refine HCL.out.mono ?_
  rintro e w2 ⟨v2, rfl, hown, hnil, hb2⟩
  obtain ⟨g, cap, rfl, hg, hgl, hcap, hcm, hl, hH⟩ := Lib.holds_of_ownsRow hown hnil
  have hdel := AnyE.slices_DeleteFunc dflL (Value.int .i64) (fun _ => rfl) (fun x => !inB x lo hi) 84 #[.pointer (some ⟨w.heap.size, 0, none⟩)] (enters_of Tryz.func84 (by kernel_rfl) rfl) 0 (fun w => Tryz.zeroValue3 w) g 0 cap zs.toArray w2
    (fun W x hbw => inner_gives w.heap.size lo hi x W (below_cell hbw (below_cell hb2 c00)) (below_cell hbw (below_cell hb2 c01)))
    (fun q os dk x _ => by
      have ne : w.heap.size ≠ g := by omega
      have lt2 : w.heap.size < w2.heap.size := Nat.lt_of_lt_of_le lc0 hb2.size
      refine inner_gives w.heap.size lo hi x _ ?_ ?_
      · unfold sortWorld
        rw [cell?_grow _ _ _ (by show w.heap.size < (putRow _ _ _ _ _).heap.size; rw [size_putRow]; exact lt2), cell?_putRow_other _ _ g 0 _ _ (Or.inl ne)]
        show w2.cell? _ = _
        exact below_cell hb2 c00
      · unfold sortWorld
        rw [cell?_grow _ _ _ (by show w.heap.size < (putRow _ _ _ _ _).heap.size; rw [size_putRow]; exact lt2), cell?_putRow_other _ _ g 0 _ _ (Or.inl ne)]
        show w2.cell? _ = _
        exact below_cell hb2 c01) hH (by simp; omega) (by simp; omega)
  change Calls Tryz.prog 82 _ _ _ at hdel
  have ef : (zs.toArray.toList.filter fun x => !!inB x lo hi) = zs.filter (fun x => inB x lo hi) := by simp
  rw [ef] at hdel
  have lf := List.length_filter_le (fun x => inB x lo hi) zs
  obtain ⟨fs, HFS⟩ : ∃ fs : List Int, Hid (fs = zs.filter (fun x => inB x lo hi)) := ⟨_, Lib.hid rfl⟩
  rw [← HFS.out] at hdel lf
  have es : zs.toArray.size = n := by simp [lz]
  rw [es] at hdel
  have HDL := Lib.hid hdel; clear hdel ef es
  have HOW := Lib.hid hown; clear hown hH hnil
  have HB2 := Lib.hid hb2; clear hb2
  go_wp2_with fail
  refine HDL.out.mono ?_
  rintro e w3 ⟨rfl, q, hw3⟩
  have how3 := Lib.ownsRow_putRow (q := q) (k := fs.length) (ys := fs ++ List.replicate (n - fs.length) 0) HOW.out (by simp; omega) (by omega)
  have hb3 := Lib.below_putRow (q := q) (enc := Value.int .i64) (d := (fs ++ List.replicate (n - fs.length) 0).toArray) HB2.out hg
  rw [← hw3] at how3 hb3
  rw [List.take_left] at how3
  have x0 := below_cell hb3 c00
  have x1 := below_cell hb3 c01
  have lb3 := Nat.lt_of_lt_of_le lc0 hb3.size
  have sz3 := hb3.size
  have HO3 := Lib.hid how3; have HB3 := Lib.hid hb3; clear how3 hb3 hw3
  have ML := Lib.hid (marks_list L n lo hi)
  have LN := Lib.hid (show (marksP L n lo hi).length = fs.length + 2 by rw [HFS.out, HZ.out]; simp [marksP])
  go_wp2_with (at_builtin; refine wpList_append_own _ rfl _ _ 22 rfl W1.heap.size 3 i0 (.int .i64 0) 1 8 Tryz.underlying22 II.out IZ0.out IZ1.out IZ2.out rfl (by decide) _ fs.length (fs.map (Value.int .i64)) rfl (World.ownsRow.alloc HO3.out _) ⟨w3.heap.size, 0, none⟩ 2 2 [.int .i64 lo, .int .i64 hi] rfl rfl (news_lit _ _ _) (by simp [Value.oneCell']) (by unfold maxLen; omega) (by omega) (by simp; omega) ?_; intro v9 w9 hown9 hgrow9 _)
  have B9 := (HB3.out.alloc sz3 (.cells #[.int .i64 lo, .int .i64 hi] 3)).grown hgrow9 (by simp; omega) (fun k hk => by cases hk; exact hg)
  rw [← LN.out, HFS.out, HZ.out, ML.out] at hown9
  obtain ⟨g9, c9, rfl, hg9, hI9⟩ : ∃ g c, v9 = .slice (some ⟨g, 0, none⟩) (marksP L n lo hi).length c ∧ W1.heap.size ≤ g ∧ ∀ i, i < (marksP L n lo hi).length → w9.cell? ⟨g, i, none⟩ = some (.int .i64 ((marksP L n lo hi).getD i 0)) := by
    have l2 := (marksP_len L n lo hi).1
    rcases hown9.2 with ⟨_, h0⟩ | ⟨g', cap', cur', rfl, hg', hgb', _⟩
    · omega
    · exact ⟨g', cap', rfl, hg', fun i hi => row_cells hown9 i _ (by simp [hi])⟩
  clear hown9 hgrow9
  have HI9 := Lib.hid hI9; have HB9 := Lib.hid (thru B9 HBc.out); clear hI9 B9
  have hs1 := HBc.out.size
  have hl9 := Nat.lt_of_lt_of_le (World.block_lt_of_cell? w9 _ (HI9.out 0 (by have := (marksP_len L n lo hi).1; omega))) (Nat.le_refl _)
  dsimp only at hl9
  go_ret
  exact ⟨g9, c9, rfl, by omega, hl9, HI9.out, HB9.out⟩
end Go.Proofs.YtjgnafhbeekebaaGreat.L1

namespace Go.Proofs.YtjgnafhbeekebaaGreat.L1
open Go.RowKit
open Go.Shelf
open Go.Proofs.YtjgnafhbeekebaaGreat

attribute [local go_sem] gw_cell gw_frozen gw_size

/-- but for two blocks all that was is as it was -/
structure Keep2 (x y : Nat) (w w' : World) : Prop where
  os : w'.os = w.os
  tape : w'.tape = w.tape
  output : w'.output = w.output
  size : w.heap.size ≤ w'.heap.size
  block : ∀ k, k < w.heap.size → k ≠ x → k ≠ y → w'.heap[k]? = w.heap[k]?
theorem Keep2.refl (x y : Nat) (w : World) : Keep2 x y w w := ⟨rfl, rfl, rfl, Nat.le_refl _, fun _ _ _ _ => rfl⟩
theorem Keep2.trans {x y : Nat} {a b c : World} (h : Keep2 x y a b) (k : Keep2 x y b c) : Keep2 x y a c :=
  ⟨k.os.trans h.os, k.tape.trans h.tape, k.output.trans h.output, Nat.le_trans h.size k.size, fun j hj h1 h2 => (k.block j (Nat.lt_of_lt_of_le hj h.size) h1 h2).trans (h.block j hj h1 h2)⟩
theorem Keep2.of {x y : Nat} {w w' : World} (h : Below w.heap.size w w') : Keep2 x y w w' := ⟨h.os, h.tape, h.output, h.size, fun k hk _ _ => h.block k hk⟩
theorem Keep2.grown {x y : Nat} {w w' : World} {r : Nat} (h : w.grownBy w' (some r)) (hr : r = x ∨ r = y ∨ w.heap.size ≤ r) : Keep2 x y w w' :=
  ⟨h.os, h.tape, h.output, h.size, fun k hk h1 h2 => h.block k hk (by simp; omega)⟩
theorem Keep2.cell {x y : Nat} {w w' : World} (h : Keep2 x y w w') {p : Addr} (hp : p.block < w.heap.size) (h1 : p.block ≠ x) (h2 : p.block ≠ y) : w'.cell? p = w.cell? p :=
  World.cell?_of_block (w := w) (h.block p.block hp h1 h2)
theorem Keep2.low {x y B : Nat} {w0 w w' : World} (h : Keep2 x y w w') (hb : Below B w0 w) (hB : B ≤ w.heap.size) (hx : B ≤ x) (hy : B ≤ y) : Below B w0 w' :=
  hb.trans ⟨h.os, h.tape, h.output, h.size, fun k hk => h.block k (by omega) (by omega) (by omega)⟩

/-- the blocks that the iterator reads -/
def cornHeld (bf bp bs bm bt : Nat) (slo shi tlo thi : Int) : List (Nat × Obj) :=
  [(bp, .cells #[.pointer (some ⟨bt, 0, none⟩)] 93 (0, 0)), (bs, .cells #[.int .i64 slo, .int .i64 shi] 27 (0, 0)), (bm, .cells #[.int .i64 tlo, .int .i64 thi] 27 (0, 0)), (bf, .cells #[.func (.func 81) #[] #[]] 73 (0, 0))]

set_option maxRecDepth 100000 in
set_option maxHeartbeats 1000000 in
theorem corners_any (bt : Nat) (slo shi tlo thi : Int) (w : World) :
    Calls Tryz.prog 73 #[.pointer (some ⟨bt, 0, none⟩), .agg #[.int .i64 slo, .int .i64 shi], .agg #[.int .i64 tlo, .int .i64 thi]] w fun e w' =>
      e = .returned (.func (.func 85) #[] #[.pointer (some ⟨w.heap.size + 1 + 1 + 1, 0, none⟩), .pointer (some ⟨w.heap.size, 0, none⟩), .pointer (some ⟨w.heap.size + 1, 0, none⟩), .pointer (some ⟨w.heap.size + 1 + 1, 0, none⟩)]) ∧
        Held (cornHeld (w.heap.size + 1 + 1 + 1) w.heap.size (w.heap.size + 1) (w.heap.size + 1 + 1) bt slo shi tlo thi) w' ∧ Below w.heap.size w w' ∧ w'.heap.size = w.heap.size + 4 := by
  have hmf : ∀ (fn : Fn) (first cap : Array Value) (w : World), (Instr.makeFunc fn first cap).run Tryz.prog w = .ok (.func fn first cap) w := fun _ _ _ _ => rfl
  obtain ⟨W1, hW1⟩ : ∃ W1, ((w.alloc (.cells #[.pointer (some ⟨bt, 0, none⟩)] 93)).alloc (.cells #[.int .i64 slo, .int .i64 shi] 27)).alloc (.cells #[.int .i64 tlo, .int .i64 thi] 27) = W1 := ⟨_, rfl⟩
  have hB : Below w.heap.size w W1 := by rw [← hW1]; exact ((below_alloc _ _).alloc (by simp) _).alloc (by simp <;> omega) _
  have z0 : W1.heap[w.heap.size]? = some (.cells #[.pointer (some ⟨bt, 0, none⟩)] 93 (0, 0)) := by rw [← hW1]; exact alloc_keep (alloc_keep (alloc_at rfl))
  have z1 : W1.heap[w.heap.size + 1]? = some (.cells #[.int .i64 slo, .int .i64 shi] 27 (0, 0)) := by rw [← hW1]; exact alloc_keep (alloc_at (by simp))
  have z2 : W1.heap[w.heap.size + 1 + 1]? = some (.cells #[.int .i64 tlo, .int .i64 thi] 27 (0, 0)) := by rw [← hW1]; exact alloc_at (by simp <;> omega)
  have hs : W1.heap.size = w.heap.size + 1 + 1 + 1 := by rw [← hW1]; simp
  have HZ := Lib.hid (And.intro hB (And.intro z0 (And.intro z1 (And.intro z2 hs)))); clear hB z0 z1 z2 hs
  have HW := Lib.hid hW1; clear hW1
  go_enter Tryz.func73, Tryz.ntmps73
  go_upto_region 1 with (fail)
  rw [HW.out]
  go_wp2_with fail
  go_ret
  obtain ⟨hB, z0, z1, z2, hs⟩ := HZ.out
  rw [← hs]
  have zf : (W1.alloc (.cells #[.func (.func 81) #[] #[]] 73)).heap[W1.heap.size]? = some (.cells #[.func (.func 81) #[] #[]] 73 (0, 0)) := alloc_at rfl
  refine ⟨rfl, ?_, ?_, ?_⟩
  · intro p hp
    simp only [cornHeld, List.mem_cons, List.not_mem_nil, or_false] at hp
    rcases hp with rfl | rfl | rfl | rfl
    · exact alloc_keep z0
    · exact alloc_keep z1
    · exact alloc_keep z2
    · exact zf
  · exact hB.alloc hB.size _
  · simp; omega

section
variable {bf bp bs bm bt : Nat} {slo shi tlo thi : Int} {W : World}
theorem cornHeld_t (h : Held (cornHeld bf bp bs bm bt slo shi tlo thi) W) :
    W.cell? ⟨bp, 0, none⟩ = some (.pointer (some ⟨bt, 0, none⟩)) ∧ (W.cell? ⟨bs, 0, none⟩ = some (.int .i64 slo) ∧ W.cell? ⟨bs, 1, none⟩ = some (.int .i64 shi)) ∧ (W.cell? ⟨bm, 0, none⟩ = some (.int .i64 tlo) ∧ W.cell? ⟨bm, 1, none⟩ = some (.int .i64 thi)) ∧ W.cell? ⟨bf, 0, none⟩ = some (.func (.func 81) #[] #[]) := by
  have H := fun p hp => h p hp
  have h1 := H (bp, .cells #[.pointer (some ⟨bt, 0, none⟩)] 93 (0, 0)) (by simp [cornHeld])
  have h2 := H (bs, .cells #[.int .i64 slo, .int .i64 shi] 27 (0, 0)) (by simp [cornHeld])
  have h3 := H (bm, .cells #[.int .i64 tlo, .int .i64 thi] 27 (0, 0)) (by simp [cornHeld])
  have h4 := H (bf, .cells #[.func (.func 81) #[] #[]] 73 (0, 0)) (by simp [cornHeld])
  exact ⟨cell_of_block h1 0 (by simp), ⟨cell_of_block h2 0 (by simp), cell_of_block h2 1 (by simp)⟩, ⟨cell_of_block h3 0 (by simp), cell_of_block h3 1 (by simp)⟩, cell_of_block h4 0 (by simp)⟩
end

set_option maxRecDepth 100000 in
set_option maxHeartbeats 4000000 in
theorem corners2_in (n l : Nat) (t : Tab) (bf bp bs bm bt : Nat) (slo shi tlo thi : Int) (W : World) (bX bY : Nat) (hI : t.In W) (hn1 : 2 ≤ t.nT) (hn2 : t.nT ≤ 32) (hn3 : 2 ≤ t.nS) (hn4 : t.nS ≤ 32)
    (hH : Held (cornHeld bf bp bs bm bt slo shi tlo thi) W) (z0 : W.cell? ⟨bt, 0, none⟩ = some (.slice t.aT t.nT t.cT)) (z1 : W.cell? ⟨bt, 1, none⟩ = some (.slice t.aS t.nS t.cS)) (hX : bX < W.heap.size) (hY : bY < W.heap.size)
    (J : Nat → World → Prop) (hJ : ∀ p V V', J p V → Below V.heap.size V V' → J p V')
    (hR : ∀ i k V, i < (marksP t.T t.nT tlo thi).length → k < (marksP t.S t.nS slo shi).length → J (i * (marksP t.S t.nS slo shi).length + k) V →
      YieldAt Fence.wide (n - 1) Tryz.prog l #[.int .i64 ((marksP t.T t.nT tlo thi).getD i 0), .int .i64 ((marksP t.S t.nS slo shi).getD k 0)] V fun e V' => e = .returned (.bool true) ∧ J (i * (marksP t.S t.nS slo shi).length + k + 1) V' ∧ Keep2 bX bY V V')
    (hJ0 : J 0 W) :
    CallsIn Fence.wide n Tryz.prog 85 #[.func (.yield l) #[] #[], .pointer (some ⟨bf, 0, none⟩), .pointer (some ⟨bp, 0, none⟩), .pointer (some ⟨bs, 0, none⟩), .pointer (some ⟨bm, 0, none⟩)] W
      fun e W' => (∃ v, e = .returned v) ∧ J ((marksP t.T t.nT tlo thi).length * (marksP t.S t.nS slo shi).length) W' := by
  obtain ⟨x0, ⟨x1, x2⟩, ⟨x3, x4⟩, x5⟩ := cornHeld_t hH
  rcases hI.iT with h | ⟨bT, oT, eT, lT, cT⟩
  · omega
  rcases hI.iS with h | ⟨bS, oS, eS, lS, cS⟩
  · omega
  rw [eT] at z0
  rw [eS] at z1
  have l0 := World.block_lt_of_cell? W _ x0
  have l1 := World.block_lt_of_cell? W _ x1
  have l3 := World.block_lt_of_cell? W _ x3
  have l5 := World.block_lt_of_cell? W _ x5
  have lt := World.block_lt_of_cell? W _ z0
  dsimp only at l0 l1 l3 l5 lt
  have MS := Lib.hid (fun z => marks_any bS oS t.nS t.cS t.S slo shi (gw W z) hn4 (by rw [gw_size]; omega) (fun i hi => below_cell (below_gw W z) (cS i hi)))
  have MT := Lib.hid (fun (V : World) (hb : Below W.heap.size W V) z => marks_any bT oT t.nT t.cT t.T tlo thi (gw V z) hn2 (by rw [gw_size]; have := hb.size; omega) (fun i hi => below_cell (hb.gw z) (cT i hi)))
  obtain ⟨mt, hmt⟩ : ∃ mt, marksP t.T t.nT tlo thi = mt := ⟨_, rfl⟩
  obtain ⟨ms, hms⟩ : ∃ ms, marksP t.S t.nS slo shi = ms := ⟨_, rfl⟩
  have ml1 := marksP_len t.T t.nT tlo thi
  have ml2 := marksP_len t.S t.nS slo shi
  rw [hmt] at MT hR ml1 ⊢
  rw [hms] at MS hR ml2 ⊢
  have HJ := Lib.hid hJ; have HR := Lib.hid hR; have HJ0 := Lib.hid hJ0
  clear hI hH cT cS eT eS hmt hms hJ hR hJ0
  refine callsIn_of_wp Tryz.func85 rfl trivial ?_ rfl
  simp only [Tryz.ntmps85, List.size_toArray, List.length_cons, List.length_nil, Nat.reduceAdd, Nat.reduceSub, Array.replicate_succ, Array.replicate_zero, List.push_toArray, List.append_toArray, List.nil_append, List.cons_append]
  refine wpIn_wide.2 ?_
  go_step3
  apply wp_seq
  refine wp_region_gw_tail 6 (by kernel_rfl) (by kernel_rfl) ?_
  simp only [List.take_succ_cons, List.take_zero]
  repeat (go_big_quiet_step (fail))
  refine wpQuiet_nil ?_
  rintro _ ⟨y0, rfl⟩
  simp only [List.drop_succ_cons, List.drop_zero]
  go_wp2_with fail
  refine (MS.out y0).mono ?_
  rintro e w1 ⟨gs, cs, rfl, hgs, hgs2, hcs, hb1⟩
  have hb1' := thru hb1 (below_gw W y0)
  replace x0 := below_cell hb1' x0
  replace x1 := below_cell hb1' x1
  replace x2 := below_cell hb1' x2
  replace x3 := below_cell hb1' x3
  replace x4 := below_cell hb1' x4
  replace x5 := below_cell hb1' x5
  replace z0 := below_cell hb1' z0
  replace z1 := below_cell hb1' z1
  have sz1 := hb1'.size
  have HB1 := Lib.hid hb1'; have HCS := Lib.hid hcs; clear hb1 hb1' hcs MS
  rw [gw_size] at hgs
  replace l0 := Nat.lt_of_lt_of_le l0 sz1
  replace l1 := Nat.lt_of_lt_of_le l1 sz1
  replace l3 := Nat.lt_of_lt_of_le l3 sz1
  replace l5 := Nat.lt_of_lt_of_le l5 sz1
  replace lt := Nat.lt_of_lt_of_le lt sz1
  go_wp2_with fail
  go_step3
  go_wp2_with fail
  refine wp_region_plan (fun w' => ∃ x, w' = gw w1 x) (.step [0, 1, 5, 8] 2 (.step [3, 4] 6 (.step [] 7 (.last [])))) (by kernel_rfl) (by kernel_rfl) ?_
  rintro _ ⟨y1, rfl⟩
  refine ⟨⟨_, rfl⟩, ?_⟩
  refine wpPlan_step ?_
  simp only [pickL, List.getElem?_cons_zero, List.getElem?_cons_succ]
  repeat (go_big_quiet_step (fail))
  refine wpQuiet_nil ?_
  go_wp2_with fail
  refine contQ_now ⟨⟨_, rfl⟩, ?_⟩
  refine wpPlan_step ?_
  simp only [pickL, List.getElem?_cons_zero, List.getElem?_cons_succ]
  repeat (go_big_quiet_step (fail))
  refine wpQuiet_nil ?_
  go_wp2_with fail
  rename_i KK hKK
  refine (MT.out w1 HB1.out y1).mono ?_
  rintro e w2 ⟨gt, ct, rfl, hgt, hgt2, hct, hb2⟩
  have hb2' := thru hb2 (below_gw w1 y1)
  have HCS2 := Lib.hid (fun i hi => below_cell hb2' (HCS.out i hi))
  have sz2 := hb2'.size
  have HB2 := Lib.hid (thru hb2' HB1.out); have HCT := Lib.hid hct
  rw [gw_size] at hgt
  obtain ⟨y2, hy2⟩ := gw_of_below hb2'
  subst hy2
  refine hKK _ _ (contQ_nil ⟨⟨_, rfl⟩, ?_⟩)
  clear hKK KK hb2 hb2' hct MT x0 x1 x2 x3 x4 x5 z0 z1
  refine wpPlan_step ?_
  simp only [pickL, List.getElem?_cons_zero, List.getElem?_cons_succ]
  refine wpQuiet_nil ?_
  go_wp2_with fail
  refine contQ_now ⟨⟨_, rfl⟩, ?_⟩
  refine wpPlan_last ?_
  simp only [pickL, List.getElem?_cons_zero, List.getElem?_cons_succ]
  refine wpQuiet_nil ?_
  refine contN_nil ?_
  go_wp2_with fail
  generalize gw w1 y2 = w2 at *
  have hJ2 := HJ.out 0 W w2 HJ0.out HB2.out
  rw [← Nat.zero_mul ms.length] at hJ2
  refine (wpIn_wide (n := n)).1 ?_
  have gX : gt ≠ bX := by have := sz1; omega
  have gY : gt ≠ bY := by have := sz1; omega
  have sX : gs ≠ bX := by omega
  have sY : gs ≠ bY := by omega
  have ls2 : gs < w2.heap.size := by omega
  clear hgs hgs2 hgt l0 l1 l3 l5 lt lT lS sz1 sz2 hX hY
  gi_loopw [26] (fun s wr => ∃ i : Nat, i ≤ mt.length ∧ s = .int .i64 i ∧ J (i * ms.length) wr ∧ Hid (Keep2 bX bY w2 wr)) (fun s _ => mt.length - (intOf s).toNat)
  case atStart => exact ⟨0, Nat.zero_le _, rfl, hJ2, Lib.hid (Keep2.refl _ _ _)⟩
  case round =>
    obtain ⟨i, hi, rfl, hJi, HK⟩ := hrel
    clear hJ2
    by_cases hlt : i < mt.length
    · have ci : wr.cell? ⟨gt, i, none⟩ = some (.int .i64 (mt.getD i 0)) := (HK.out.cell (p := ⟨gt, i, none⟩) hgt2 gX gY).trans (HCT.out i hlt)
      obtain ⟨x, hx⟩ : ∃ x, mt.getD i 0 = x := ⟨_, rfl⟩
      rw [hx] at ci
      have HX := Lib.hid hx; clear hx
      have lg := World.block_lt_of_cell? wr _ ci
      dsimp only at lg
      have HJI := Lib.hid hJi; clear hJi
      gi_wp2_with fail
      rename_i K1 h1
      have HK1 := Lib.hid h1; clear h1
      gi_loopw [32] (fun s wr => ∃ k : Nat, k ≤ ms.length ∧ s = .int .i64 k ∧ J (i * ms.length + k) wr ∧ Hid (Keep2 bX bY w2 wr)) (fun s _ => ms.length - (intOf s).toNat)
      case atStart => exact ⟨0, Nat.zero_le _, rfl, HJI.out, HK⟩
      case round =>
        obtain ⟨k, hk, rfl, hJk, HKk⟩ := hrel
        clear ci lg
        by_cases hl2 : k < ms.length
        · have ck : wr.cell? ⟨gs, k, none⟩ = some (.int .i64 (ms.getD k 0)) := (HKk.out.cell (p := ⟨gs, k, none⟩) ls2 sX sY).trans (HCS2.out k hl2)
          obtain ⟨fn, tmps, assign, body, hy, hR⟩ := HR.out i k wr hlt hl2 hJk
          obtain ⟨y, hyy⟩ : ∃ y, ms.getD k 0 = y := ⟨_, rfl⟩
          rw [hyy] at ck hy
          rw [HX.out] at hy
          clear hyy hJk
          have lg := World.block_lt_of_cell? wr _ ck
          dsimp only at lg
          have HRR := Lib.hid hR; clear hR
          gi_wp2_with fail
          refine ⟨(fun h => (by cases h)), HRR.out.mono ?_⟩
          rintro e W3 ⟨rfl, hJ3, hK3⟩
          have HJ3 := Lib.hid hJ3; have HK3 := Lib.hid (HKk.out.trans hK3); clear hJ3 hK3 hy HRR ck lg
          gi_wp2_with fail
          go_roundw
          case rel => exact ⟨k + 1, by omega, by go_num, HJ3.out, HK3⟩
          case measure => simp [intOf]; omega
        · obtain rfl : k = ms.length := by omega
          rw [← Nat.succ_mul] at hJk
          have HJK := Lib.hid hJk; clear hJk
          gi_wp2_with fail
          refine HK1.out _ _ ?_
          clear HK1
          gi_wp2_with fail
          go_roundw
          case rel => exact ⟨i + 1, by omega, by go_num, HJK.out, HKk⟩
          case measure => simp [intOf]; omega
    · obtain rfl : i = mt.length := by omega
      have HJI := Lib.hid hJi; clear hJi
      gi_wp2_with fail
      rw [Exit.noGoto_normal]
      go_end0
      exact ⟨⟨_, rfl⟩, HJI.out⟩
end Go.Proofs.YtjgnafhbeekebaaGreat.L1
