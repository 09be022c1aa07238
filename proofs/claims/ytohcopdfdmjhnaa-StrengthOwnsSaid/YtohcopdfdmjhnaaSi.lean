/- Contracts of the library (Clone, DeleteFunc, Mul64, LeadingZeros64) laid at this program. Contract of what gives the marks of a span. No conditions beyond each theorem's own. -/
import Derived.Test.YtohcopdfdmjhnaaSh
import Derived.Shelf.SlicesE.DeleteFunc
import Derived.Shelf.SlicesE.Clone
import Derived.Shelf.Bits.Mul64
import Derived.Shelf.Small.Bits
import Derived.Lib.OwnBridge
set_option linter.unusedVariables false
set_option linter.unusedSimpArgs false
set_option linter.unusedSectionVars false
set_option linter.constructorNameAsVariable false
namespace Go.Proofs.Ytohcopdfdmjhnaa.L1
open Go.Shelf
def dflL_ren : Go.Shelf.Ren := ⟨fun | 10 => 93 | 6 => 100 | n => n, fun | 22 => 22 | 23 => 3 | 25 => 84 | 3 => 3 | 4 => 4 | 0 => 0 | n => n, fun | n => n⟩
theorem dflL : Go.Proofs.SlLaysH.n10 Try.prog dflL_ren := {
  mixed := by kernel_rfl
  f6 := ⟨Try.f100.name, by decide, Try.func100.trans (congrArg some (by kernel_rfl))⟩
  f10 := ⟨Try.f93.name, by decide, Try.func93.trans (congrArg some (by kernel_rfl))⟩
  t0 := Try.underlying0
  a0 := Try.isAgg0
  z0 := Try.sizeOf0
  v0 := Try.zeroValue0
  t3 := Try.underlying3
  a3 := Try.isAgg3
  z3 := Try.sizeOf3
  v3 := Try.zeroValue3
  t4 := Try.underlying4
  a4 := Try.isAgg4
  z4 := Try.sizeOf4
  v4 := Try.zeroValue4
  t22 := Try.underlying22
  a22 := Try.isAgg22
  z22 := Try.sizeOf22
  v22 := Try.zeroValue22
  a23 := Try.isAgg3
  z23 := Try.sizeOf3
  t25 := Try.underlying84
  a25 := Try.isAgg84
  z25 := Try.sizeOf84
  v25 := Try.zeroValue84 }
def clnL_ren : Go.Shelf.Ren := ⟨fun | 41 => 94 | n => n, fun | 22 => 22 | 23 => 3 | 4 => 4 | n => n, fun | n => n⟩
theorem clnL : Go.Proofs.SlLaysE0.n41 Try.prog clnL_ren := {
  mixed := by kernel_rfl
  f41 := ⟨Try.f94.name, by decide, Try.func94.trans (congrArg some (by kernel_rfl))⟩
  t4 := Try.underlying4
  a4 := Try.isAgg4
  z4 := Try.sizeOf4
  v4 := Try.zeroValue4
  t22 := Try.underlying22
  a22 := Try.isAgg22
  z22 := Try.sizeOf22
  v22 := Try.zeroValue22 }
def mulL_ren : Go.Shelf.Ren := ⟨fun | 264 => 65 | n => n, fun | 53 => 91 | 46 => 110 | n => n, fun | n => n⟩
theorem mulL : Go.Proofs.Lays.n264 Try.prog mulL_ren := {
  mixed := by kernel_rfl
  f264 := Try.func65.trans (congrArg some (by kernel_rfl))
  t46 := Try.underlying110
  a46 := Try.isAgg110
  z46 := Try.sizeOf110
  v46 := Try.zeroValue110
  t53 := Try.underlying91
  a53 := Try.isAgg91
  z53 := Try.sizeOf91
  v53 := Try.zeroValue91 }
def lzL_ren : Go.Shelf.Ren := ⟨fun | 134 => 87 | 129 => 99 | n => n, fun | 53 => 91 | 3 => 3 | 4 => 4 | 46 => 110 | 5 => 5 | 9 => 9 | n => n, fun | n => n⟩
theorem lzL : Go.Proofs.Lays.n134 Try.prog lzL_ren := {
  mixed := by kernel_rfl
  f129 := Try.func99.trans (congrArg some (by kernel_rfl))
  f134 := Try.func87.trans (congrArg some (by kernel_rfl))
  t3 := Try.underlying3
  a3 := Try.isAgg3
  z3 := Try.sizeOf3
  v3 := Try.zeroValue3
  t4 := Try.underlying4
  a4 := Try.isAgg4
  z4 := Try.sizeOf4
  v4 := Try.zeroValue4
  t5 := Try.underlying5
  a5 := Try.isAgg5
  z5 := Try.sizeOf5
  v5 := Try.zeroValue5
  t9 := Try.underlying9
  a9 := Try.isAgg9
  z9 := Try.sizeOf9
  v9 := Try.zeroValue9
  t46 := Try.underlying110
  a46 := Try.isAgg110
  z46 := Try.sizeOf110
  v46 := Try.zeroValue110
  t53 := Try.underlying91
  a53 := Try.isAgg91
  z53 := Try.sizeOf91
  v53 := Try.zeroValue91 }

open Go.RowKit
open Go.Lib
open Go.Sort
open Go.Proofs.Ytohcopdfdmjhnaa

attribute [local go_sem] gw_cell gw_frozen gw_size

theorem infoI : (Try.prog.info? 3).map (fun i => (i.zero, i.size, i.bytes)) = some (some (.int .i64 0), 1, 8) := by kernel_rfl

set_option maxHeartbeats 1000000 in
theorem inner_gives (bs : Nat) (lo hi x : Int) (W : World) (h0 : W.cell? ⟨bs, 0, none⟩ = some (.int .i64 lo)) (h1 : W.cell? ⟨bs, 1, none⟩ = some (.int .i64 hi)) :
    FnGives Try.prog 95 #[.pointer (some ⟨bs, 0, none⟩)] #[.int .i64 x] (.bool (!inB x lo hi)) W := by
  show Calls Try.prog 95 #[.int .i64 x, .pointer (some ⟨bs, 0, none⟩)] W _
  have WI := Lib.hid (within_any x lo hi W)
  generalize inB x lo hi = B at *
  go_enter Try.func95, Try.ntmps95
  go_wp2_with fail
  refine WI.out.mono ?_
  rintro e w1 ⟨rfl, rfl⟩
  go_wp2_with fail
  go_ret
  exact ⟨rfl, 0, rfl⟩

theorem marks_list (L : Nat → Int) (n : Nat) (lo hi : Int) : (((List.range n).map L).filter (fun x => inB x lo hi)).map (Value.int .i64) ++ [.int .i64 lo, .int .i64 hi] = (List.range (marksP L n lo hi).length).map fun i => .int .i64 ((marksP L n lo hi).getD i 0) := by
  have e : (((List.range n).map L).filter (fun x => inB x lo hi)).map (Value.int .i64) ++ [.int .i64 lo, .int .i64 hi] = (marksP L n lo hi).map (Value.int .i64) := by simp [marksP]
  rw [e]
  apply List.ext_getElem?
  intro j
  rw [List.getElem?_map, List.getElem?_map]
  rcases Nat.lt_or_ge j (marksP L n lo hi).length with h | h
  · rw [List.getElem?_range h, List.getElem?_eq_getElem h]; simp [h]
  · rw [List.getElem?_eq_none h, List.getElem?_eq_none (by simpa using h)]; rfl

set_option maxRecDepth 100000 in
set_option maxHeartbeats 2000000 in
theorem marks_any (b off n c : Nat) (L : Nat → Int) (lo hi : Int) (w : World) (hn : n ≤ 32) (hb : b < w.heap.size) (hc : ∀ i, i < n → w.cell? ⟨b, off + i, none⟩ = some (.int .i64 (L i))) :
    Calls Try.prog 92 #[.slice (some ⟨b, off, none⟩) n c, .agg #[.int .i64 lo, .int .i64 hi]] w fun e w' =>
      ∃ g c2, e = .returned (.slice (some ⟨g, 0, none⟩) (marksP L n lo hi).length c2) ∧ w.heap.size ≤ g ∧ g < w'.heap.size ∧ (∀ i, i < (marksP L n lo hi).length → w'.cell? ⟨g, i, none⟩ = some (.int .i64 ((marksP L n lo hi).getD i 0))) ∧ Below w.heap.size w w' := by
  have hmf : ∀ (fn : Fn) (first cap : Array Value) (w : World), (Instr.makeFunc fn first cap).run Try.prog w = .ok (.func fn first cap) w := fun _ _ _ _ => rfl
  obtain ⟨i0, hi0, hx0, hx1, hx2⟩ := info_parts infoI
  obtain ⟨W1, hW1⟩ : ∃ W1, w.alloc (.cells #[.int .i64 lo, .int .i64 hi] 27) = W1 := ⟨_, rfl⟩
  have hBc : Below w.heap.size w W1 := by rw [← hW1]; exact below_alloc _ _
  have zc0 : W1.heap[w.heap.size]? = some (.cells #[.int .i64 lo, .int .i64 hi] 27 (0, 0)) := by rw [← hW1]; exact alloc_at rfl
  have c00 : W1.cell? ⟨w.heap.size, 0, none⟩ = some (.int .i64 lo) := cell_of_block zc0 0 (by simp)
  have c01 : W1.cell? ⟨w.heap.size, 1, none⟩ = some (.int .i64 hi) := cell_of_block zc0 1 (by simp)
  have lc0 := (Array.getElem?_eq_some_iff.1 zc0).1
  clear zc0
  have HBc := Lib.hid hBc; clear hBc
  have HWc := Lib.hid hW1; clear hW1
  obtain ⟨zs, HZ⟩ : ∃ zs : List Int, Hid (zs = (List.range n).map L) := ⟨_, Lib.hid rfl⟩
  have lz : zs.length = n := by rw [HZ.out]; simp
  have hcl := AnyE.slices_Clone clnL i0 (.int .i64 0) 1 8 hi0 hx0 hx1 hx2 (by rfl) (by decide) (fun w => Try.sizeOf3 w) b off n c (zs.map (Value.int .i64)) W1 (by simp [lz]) (by unfold maxLen; omega) (by omega)
    (fun j u hu => by
      rw [HZ.out, List.map_map, List.getElem?_map] at hu
      rcases Nat.lt_or_ge j n with h | h
      · rw [List.getElem?_range h] at hu
        simp only [Option.map_some, Option.some.injEq] at hu
        rw [← hu]
        exact below_cell HBc.out (hc j h)
      · rw [List.getElem?_eq_none (by simpa using h)] at hu; cases hu)
    (fun u hu => by
      simp only [List.mem_map] at hu
      obtain ⟨x, _, rfl⟩ := hu
      rfl)
  change Calls Try.prog 94 _ _ _ at hcl
  have HCL := Lib.hid hcl; clear hcl
  have II := Lib.hid hi0; have IZ0 := Lib.hid hx0; have IZ1 := Lib.hid hx1; have IZ2 := Lib.hid hx2; clear hi0 hx0 hx1 hx2 hc
  go_enter Try.func92, Try.ntmps92
  go_upto_region 1 with (fail)
  rw [HWc.out]
  go_wp2_with fail
  refine HCL.out.mono ?_
  rintro e w2 ⟨v2, rfl, hown, hnil, hb2⟩
  obtain ⟨g, cap, rfl, hg, hgl, hcap, hcm, hl, hH⟩ := Lib.holds_of_ownsRow hown hnil
  have hdel := AnyE.slices_DeleteFunc dflL (Value.int .i64) (fun _ => rfl) (fun x => !inB x lo hi) 95 #[.pointer (some ⟨w.heap.size, 0, none⟩)] (enters_of Try.func95 (by kernel_rfl) rfl) 0 (fun w => Try.zeroValue3 w) g 0 cap zs.toArray w2
    (fun W x hbw => inner_gives w.heap.size lo hi x W (below_cell hbw (below_cell hb2 c00)) (below_cell hbw (below_cell hb2 c01)))
    (fun q os dk x _ => by
      have ne : w.heap.size ≠ g := by omega
      have lt2 : w.heap.size < w2.heap.size := Nat.lt_of_lt_of_le lc0 hb2.size
      refine inner_gives w.heap.size lo hi x _ ?_ ?_
      · unfold sortWorld
        rw [cell?_grow _ _ _ (by show w.heap.size < (putRow _ _ _ _ _).heap.size; rw [size_putRow]; exact lt2), cell?_putRow_other _ _ g 0 _ _ (Or.inl ne)]
        show w2.cell? _ = _
        exact below_cell hb2 c00
      · unfold sortWorld
        rw [cell?_grow _ _ _ (by show w.heap.size < (putRow _ _ _ _ _).heap.size; rw [size_putRow]; exact lt2), cell?_putRow_other _ _ g 0 _ _ (Or.inl ne)]
        show w2.cell? _ = _
        exact below_cell hb2 c01) hH (by simp; omega) (by simp; omega)
  change Calls Try.prog 93 _ _ _ at hdel
  have ef : (zs.toArray.toList.filter fun x => !!inB x lo hi) = zs.filter (fun x => inB x lo hi) := by simp
  rw [ef] at hdel
  have lf := List.length_filter_le (fun x => inB x lo hi) zs
  obtain ⟨fs, HFS⟩ : ∃ fs : List Int, Hid (fs = zs.filter (fun x => inB x lo hi)) := ⟨_, Lib.hid rfl⟩
  rw [← HFS.out] at hdel lf
  have es : zs.toArray.size = n := by simp [lz]
  rw [es] at hdel
  have HDL := Lib.hid hdel; clear hdel ef es
  have HOW := Lib.hid hown; clear hown hH hnil
  have HB2 := Lib.hid hb2; clear hb2
  go_wp2_with fail
  refine HDL.out.mono ?_
  rintro e w3 ⟨rfl, q, hw3⟩
  have how3 := Lib.ownsRow_putRow (q := q) (k := fs.length) (ys := fs ++ List.replicate (n - fs.length) 0) HOW.out (by simp; omega) (by omega)
  have hb3 := Lib.below_putRow (q := q) (enc := Value.int .i64) (d := (fs ++ List.replicate (n - fs.length) 0).toArray) HB2.out hg
  rw [← hw3] at how3 hb3
  rw [List.take_left] at how3
  have x0 := below_cell hb3 c00
  have x1 := below_cell hb3 c01
  have lb3 := Nat.lt_of_lt_of_le lc0 hb3.size
  have sz3 := hb3.size
  have HO3 := Lib.hid how3; have HB3 := Lib.hid hb3; clear how3 hb3 hw3
  have ML := Lib.hid (marks_list L n lo hi)
  have LN := Lib.hid (show (marksP L n lo hi).length = fs.length + 2 by rw [HFS.out, HZ.out]; simp [marksP])
  go_wp2_with (at_builtin; refine wpList_append_own _ rfl _ _ 22 rfl W1.heap.size 3 i0 (.int .i64 0) 1 8 Try.underlying22 II.out IZ0.out IZ1.out IZ2.out rfl (by decide) _ fs.length (fs.map (Value.int .i64)) rfl (World.ownsRow.alloc HO3.out _) ⟨w3.heap.size, 0, none⟩ 2 2 [.int .i64 lo, .int .i64 hi] rfl rfl (news_lit _ _ _) (by simp [Value.oneCell']) (by unfold maxLen; omega) (by omega) (by simp; omega) ?_; intro v9 w9 hown9 hgrow9 _)
  have B9 := (HB3.out.alloc sz3 (.cells #[.int .i64 lo, .int .i64 hi] 3)).grown hgrow9 (by simp; omega) (fun k hk => by cases hk; exact hg)
  rw [← LN.out, HFS.out, HZ.out, ML.out] at hown9
  obtain ⟨g9, c9, rfl, hg9, hI9⟩ : ∃ g c, v9 = .slice (some ⟨g, 0, none⟩) (marksP L n lo hi).length c ∧ W1.heap.size ≤ g ∧ ∀ i, i < (marksP L n lo hi).length → w9.cell? ⟨g, i, none⟩ = some (.int .i64 ((marksP L n lo hi).getD i 0)) := by
    have l2 := (marksP_len L n lo hi).1
    rcases hown9.2 with ⟨_, h0⟩ | ⟨g', cap', cur', rfl, hg', hgb', _⟩
    · omega
    · exact ⟨g', cap', rfl, hg', fun i hi => row_cells hown9 i _ (by simp [hi])⟩
  clear hown9 hgrow9
  have HI9 := Lib.hid hI9; have HB9 := Lib.hid (thru B9 HBc.out); clear hI9 B9
  have hs1 := HBc.out.size
  have hl9 := Nat.lt_of_lt_of_le (World.block_lt_of_cell? w9 _ (HI9.out 0 (by have := (marksP_len L n lo hi).1; omega))) (Nat.le_refl _)
  dsimp only at hl9
  go_ret
  exact ⟨g9, c9, rfl, by omega, hl9, HI9.out, HB9.out⟩
end Go.Proofs.Ytohcopdfdmjhnaa.L1
