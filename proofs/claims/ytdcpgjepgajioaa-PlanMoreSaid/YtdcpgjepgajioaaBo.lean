/- Contract of slices.Repeat at one cellar. No conditions beyond each theorem's own. -/
import Derived.Test.YtdcpgjepgajioaaBn
import Derived.Shelf.Bits.Mul64
import Derived.Laws.MakeOwn
set_option linter.unusedVariables false
set_option linter.unusedSimpArgs false
set_option linter.unusedSectionVars false
set_option linter.constructorNameAsVariable false
namespace Go.Proofs.Ytdcpgjepgajioaa
open Go.RowKit

attribute [local go_sem] gw_cell gw_frozen gw_size

open Go.Shelf in
def mulL_ren : Go.Shelf.Ren := ⟨fun | 264 => 78 | n => n, fun | 53 => 107 | 46 => 99 | n => n, fun | n => n⟩
theorem mulL : Go.Proofs.Lays.n264 Try.prog mulL_ren := {
  mixed := by kernel_rfl
  f264 := Try.func78.trans (congrArg some (by kernel_rfl))
  t46 := Try.underlying99
  a46 := Try.isAgg99
  z46 := Try.sizeOf99
  v46 := Try.zeroValue99
  t53 := Try.underlying107
  a53 := Try.isAgg107
  z53 := Try.sizeOf107
  v53 := Try.zeroValue107 }
theorem mul64_any (x y : Nat) (hx : x ≤ 4294967295) (hy : y ≤ 4294967295) (w : World) :
    Calls Try.prog 78 #[.int .u64 x, .int .u64 y] w fun e w' => e = .returned (.tuple #[.int .u64 0, .int .u64 ((x * y : Nat) : Int)]) ∧ w = w' := by
  have hb : x * y < 18446744073709551616 := Nat.lt_of_le_of_lt (Nat.mul_le_mul hx hy) (by decide)
  refine (Go.Proofs.Any.bits_Mul64 mulL x y (by omega) (by omega) w).mono fun e w' ⟨he, hw⟩ => ⟨?_, hw.symm⟩
  rw [he, Nat.div_eq_of_lt hb, Nat.mod_eq_of_lt hb]
  rfl
set_option maxHeartbeats 400000 in
theorem mul_any (x y : Nat) (hx : x ≤ 4294967295) (hy : y ≤ 4294967295) (w : World) :
    Calls Try.prog 73 #[.int .u64 x, .int .u64 y] w fun e w' => e = .returned (.tuple #[.int .u64 0, .int .u64 ((x * y : Nat) : Int)]) ∧ w = w' := by
  have H := Lib.hid (mul64_any x y hx hy w)
  obtain ⟨z, hz⟩ : ∃ z : Int, ((x * y : Nat) : Int) = z := ⟨_, rfl⟩
  rw [hz] at H ⊢
  clear hz
  go_enter Try.func73, Try.ntmps73
  go_wp2_with (go_at_call 78; refine H.out.mono ?_; rintro e w' ⟨rfl, rfl⟩)
  go_ret2
  exact ⟨rfl, rfl⟩

theorem infoCel1 : (Try.prog.info? 74).map (·.size) = some 32 := by kernel_rfl
theorem run_copy_cels (w : World) (ty : TypeId) (b o dLen dCap : Nat) (a : Addr) (sLen sCap m : Nat) (cs : List Value) (hm : m = Nat.min sLen dLen) (hn : cs.length = m * 32)
    (hsrc : ∀ j v, cs[j]? = some v → w.cell? (a.add j) = some v) (hc : ∀ j, j < cs.length → (w.cell? ⟨b, o + j, none⟩).isSome = true) (hf : ∀ j, j < cs.length → w.frozen? ⟨b, o + j, none⟩ = false) (h1 : ∀ v ∈ cs, v.oneCell' = true) :
    (Builtin.copy_ #[93, 93] ty #[.slice (some ⟨b, o, none⟩) dLen dCap, .slice (some a) sLen sCap]).run Try.prog w = .ok (goInt m) (w.setCells b o cs) := by
  have hl := run_loadCells_list (P := Try.prog) w a cs hsrc
  have hst := run_storeCells_cells (P := Try.prog) b o cs 0 w (by simpa using hc) (by simpa using hf) h1
  have hu : Try.prog.underlying 93 = some (.slice 74) := by kernel_rfl
  have hs := infoCel1
  rw [hn] at hl
  subst hm
  cases hq : Try.prog.info? 74 with
  | none => simp [hq] at hs
  | some i =>
    have hi : i.size = 32 := by simpa [hq] using hs
    simp [Builtin.copy_, run_underlying hu, Builtin.lenOf, Builtin.firstCells, sizeOf, typeInfo, hq, hi, hl, hst]
theorem cels_put {w : World} {g n k m : Nat} {L : Nat → List Int} {c : List Int} (h : CelsAt w g n L) (hc : c.length = 32) (hkm : k + m ≤ n) :
    CelsAt (w.setCells g (k * 32) (flatV m fun _ => c)) g n (fun i => if k ≤ i ∧ i < k + m then c else L i) := by
  have hl := flatV_len (n := m) (L := fun _ => c) (fun _ _ => hc)
  intro i hi
  have hi0 := h i hi
  refine ⟨?_, fun j hj => ?_, fun q => (World.frozen?_setCells g _ _ w _).trans (hi0.free q)⟩
  · dsimp only; split
    · exact hc
    · exact hi0.len
  · by_cases hin : k ≤ i ∧ i < k + m
    · simp only [if_pos hin]
      have hj' : (i - k) * 32 + j < (flatV m fun _ => c).length := by rw [hl]; omega
      have e := World.cell?_setCells_in g (flatV m fun _ => c) (k * 32) w (fun q hq => by
        rw [hl] at hq
        have e1 : k * 32 + q = (k + q / 32) * 32 + q % 32 := by omega
        rw [e1, (h (k + q / 32) (by omega)).cell (q % 32) (by omega)]; rfl) _ hj'
      rw [show i * 32 + j = k * 32 + ((i - k) * 32 + j) by omega, e]
      have g1 := flatV_get (n := m) (L := fun _ => c) (fun _ _ => hc) (i := i - k) (j := j) (by omega) hj
      rw [List.getElem?_eq_getElem hj'] at g1
      exact g1
    · simp only [if_neg hin]
      rw [World.cell?_setCells_out g _ _ w _ (fun _ _ => by rw [hl]; dsimp only; omega)]
      exact hi0.cell j hj
theorem made_zero (n : Nat) {i : Nat} (hi : i < n * 32) : (madeCells #[.int .i64 0, .int .i64 0, .int .i64 0, .int .i64 0, .int .i64 0, .int .i64 0, .int .i64 0, .int .i64 0, .int .i64 0, .int .i64 0, .int .i64 0, .int .i64 0, .int .i64 0, .int .i64 0, .int .i64 0, .int .i64 0, .int .i64 0, .int .i64 0, .int .i64 0, .int .i64 0, .int .i64 0, .int .i64 0, .int .i64 0, .int .i64 0, .int .i64 0, .int .i64 0, .int .i64 0, .int .i64 0, .int .i64 0, .int .i64 0, .int .i64 0, .int .i64 0] (n * 32))[i]? = some (.int .i64 0) := by
  have h : (madeCells #[.int .i64 0, .int .i64 0, .int .i64 0, .int .i64 0, .int .i64 0, .int .i64 0, .int .i64 0, .int .i64 0, .int .i64 0, .int .i64 0, .int .i64 0, .int .i64 0, .int .i64 0, .int .i64 0, .int .i64 0, .int .i64 0, .int .i64 0, .int .i64 0, .int .i64 0, .int .i64 0, .int .i64 0, .int .i64 0, .int .i64 0, .int .i64 0, .int .i64 0, .int .i64 0, .int .i64 0, .int .i64 0, .int .i64 0, .int .i64 0, .int .i64 0, .int .i64 0] (n * 32)).size = n * 32 := size_madeCells _ _
  unfold madeCells
  simp only [Array.getElem?_map, Array.getElem?_range, hi]
  have hm : i % 32 < 32 := Nat.mod_lt _ (by omega)
  show some ((#[.int .i64 0, .int .i64 0, .int .i64 0, .int .i64 0, .int .i64 0, .int .i64 0, .int .i64 0, .int .i64 0, .int .i64 0, .int .i64 0, .int .i64 0, .int .i64 0, .int .i64 0, .int .i64 0, .int .i64 0, .int .i64 0, .int .i64 0, .int .i64 0, .int .i64 0, .int .i64 0, .int .i64 0, .int .i64 0, .int .i64 0, .int .i64 0, .int .i64 0, .int .i64 0, .int .i64 0, .int .i64 0, .int .i64 0, .int .i64 0, .int .i64 0, .int .i64 0] : Array Value)[i % 32]!) = _
  generalize i % 32 = q at hm
  show some ((Array.replicate 32 (Value.int .i64 0))[q]!) = _
  rw [getElem!_pos _ q (by simpa using hm), Array.getElem_replicate]
theorem cels_made (w : World) (n : Nat) : CelsAt (w.alloc (.cells (madeCells #[.int .i64 0, .int .i64 0, .int .i64 0, .int .i64 0, .int .i64 0, .int .i64 0, .int .i64 0, .int .i64 0, .int .i64 0, .int .i64 0, .int .i64 0, .int .i64 0, .int .i64 0, .int .i64 0, .int .i64 0, .int .i64 0, .int .i64 0, .int .i64 0, .int .i64 0, .int .i64 0, .int .i64 0, .int .i64 0, .int .i64 0, .int .i64 0, .int .i64 0, .int .i64 0, .int .i64 0, .int .i64 0, .int .i64 0, .int .i64 0, .int .i64 0, .int .i64 0] (n * 32)) 74)) w.heap.size n (fun _ => zero32) := by
  have hb := World.alloc_heap_new w (.cells (madeCells #[.int .i64 0, .int .i64 0, .int .i64 0, .int .i64 0, .int .i64 0, .int .i64 0, .int .i64 0, .int .i64 0, .int .i64 0, .int .i64 0, .int .i64 0, .int .i64 0, .int .i64 0, .int .i64 0, .int .i64 0, .int .i64 0, .int .i64 0, .int .i64 0, .int .i64 0, .int .i64 0, .int .i64 0, .int .i64 0, .int .i64 0, .int .i64 0, .int .i64 0, .int .i64 0, .int .i64 0, .int .i64 0, .int .i64 0, .int .i64 0, .int .i64 0, .int .i64 0] (n * 32)) 74)
  refine fun i hi => ⟨rfl, fun j hj => ?_, fun k => frozen_of_block hb k⟩
  rw [cell_of_row _ _ _ _ _ _ hb, made_zero n (by omega)]
  congr 2
  unfold zero32
  rw [List.getD_eq_getElem?_getD, List.getElem?_replicate]
  split <;> rfl
theorem below_sets {base b : Nat} (hb : base ≤ b) : ∀ (vs : List Value) (o : Nat) (w : World), Below base w (w.setCells b o vs)
  | [], _, _ => Below.refl _ _
  | v :: r, o, _ => ((Below.refl _ _).setCell (p := ⟨b, o, none⟩) (by simp <;> omega) v).trans (below_sets hb r (o + 1) _)
theorem CelsAt.congr {w : World} {g n : Nat} {L L' : Nat → List Int} (h : CelsAt w g n L) (e : ∀ i, i < n → L i = L' i) : CelsAt w g n L' := fun i hi => by rw [← e i hi]; exact h i hi
theorem celSz (W : World) : (sizeOf (Try.prog.elem 93)).run Try.prog W = .ok 32 W := by
  have h := infoCel1
  cases hq : Try.prog.info? 74 with
  | none => simp [hq] at h
  | some i =>
    have hi : i.size = 32 := by simpa [hq] using h
    have e : Try.prog.elem 93 = 74 := by kernel_rfl
    rw [e]
    simp [sizeOf, typeInfo, hq, hi]
theorem copy_rows (w : World) (b n k m sn sc : Nat) (g : Nat) (c : List Int) (L : Nat → List Int) (h : CelsAt w b n L) (hs : CelsAt w g m fun _ => c) (hm : m = Nat.min sn (n - k)) (hk : k ≤ n) (h0 : 1 ≤ m) :
    ∃ w', (∀ ty, (Builtin.copy_ #[93, 93] ty #[.slice (some ⟨b, k * 32, none⟩) (n - k) (n - k), .slice (some ⟨g, 0, none⟩) sn sc]).run Try.prog w = .ok (goInt m) w') ∧ CelsAt w' b n (fun i => if k ≤ i ∧ i < k + m then c else L i) ∧ w.heap.size ≤ w'.heap.size ∧ ∀ base, base ≤ b → Below base w w' := by
  have hc := (hs 0 h0).len
  have hkm : k + m ≤ n := by have : m ≤ n - k := by rw [hm]; exact Nat.min_le_right _ _
                             omega
  have hl := flatV_len (n := m) (L := fun _ => c) (fun _ _ => hc)
  have hq : ∀ q, q < (flatV m fun _ => c).length → (w.cell? ⟨b, k * 32 + q, none⟩).isSome = true := fun q hq => by
    rw [hl] at hq
    have e1 : k * 32 + q = (k + q / 32) * 32 + q % 32 := by omega
    rw [e1, (h (k + q / 32) (by omega)).cell (q % 32) (by omega)]; rfl
  refine ⟨w.setCells b (k * 32) (flatV m fun _ => c), fun ty => run_copy_cels w ty b (k * 32) (n - k) (n - k) _ sn sc m _ hm hl (fun j v hv => ?_) hq (fun j _ => (h 0 (by omega)).free _) (flatV_one _ _), cels_put h hc hkm, (grownBy_setCells b _ _ w).size, fun base hb => below_sets hb _ _ w⟩
  · rcases cels_news hs with h1 | ⟨ad, h1, h2⟩
    · omega
    · cases h1; exact h2 j v hv

set_option maxRecDepth 100000 in
set_option maxHeartbeats 4000000 in
theorem repeat_any (g n c0 : Nat) (c : List Int) (w : World) (h : CelsAt w g 1 fun _ => c) (h0 : 1 ≤ n) (hl : n ≤ 8) :
    Calls Try.prog 63 #[.slice (some ⟨g, 0, none⟩) 1 c0, .int .i64 (n : Int)] w fun e w' => ∃ g', e = .returned (.slice (some ⟨g', 0, none⟩) n n) ∧ CelsAt w' g' n (fun _ => c) ∧ w.heap.size ≤ g' ∧ g' < w'.heap.size ∧ Below w.heap.size w w' := by
  obtain ⟨M, MS, MK⟩ : ∃ M : Array Value, M = madeCells #[.int .i64 0, .int .i64 0, .int .i64 0, .int .i64 0, .int .i64 0, .int .i64 0, .int .i64 0, .int .i64 0, .int .i64 0, .int .i64 0, .int .i64 0, .int .i64 0, .int .i64 0, .int .i64 0, .int .i64 0, .int .i64 0, .int .i64 0, .int .i64 0, .int .i64 0, .int .i64 0, .int .i64 0, .int .i64 0, .int .i64 0, .int .i64 0, .int .i64 0, .int .i64 0, .int .i64 0, .int .i64 0, .int .i64 0, .int .i64 0, .int .i64 0, .int .i64 0] (n * 32) ∧ ∀ w : World, (Instr.makeSlice 93 (.int .i64 (n : Int)) (.int .i64 (n : Int))).run Try.prog w = .ok (.slice (some ⟨w.heap.size, 0, none⟩) n n) (w.alloc (.cells M 74)) := by
    refine ⟨_, rfl, fun w => ?_⟩
    obtain ⟨j0, jh, jy0, jy1, jy2⟩ := info_parts infoCel3
    have := run_make (P := Try.prog) w 93 74 j0 (.agg #[.int .i64 0, .int .i64 0, .int .i64 0, .int .i64 0, .int .i64 0, .int .i64 0, .int .i64 0, .int .i64 0, .int .i64 0, .int .i64 0, .int .i64 0, .int .i64 0, .int .i64 0, .int .i64 0, .int .i64 0, .int .i64 0, .int .i64 0, .int .i64 0, .int .i64 0, .int .i64 0, .int .i64 0, .int .i64 0, .int .i64 0, .int .i64 0, .int .i64 0, .int .i64 0, .int .i64 0, .int .i64 0, .int .i64 0, .int .i64 0, .int .i64 0, .int .i64 0]) Try.underlying93 jh jy0 .i64 .i64 n n (by omega) (by omega) (by rw [jy2]; show (256 : Int) * _ ≤ _; omega) (by omega)
    rw [jy1] at this
    simp only [Int.toNat_natCast] at this
    exact this
  obtain ⟨w0, hw0⟩ : ∃ w0, w0 = w.alloc (.cells M 74) := ⟨_, rfl⟩
  have C0 : CelsAt w0 w.heap.size n (fun _ => zero32) := by rw [hw0, MS]; exact cels_made w n
  have B0 : Below w.heap.size w w0 := by rw [hw0]; exact below_alloc w _
  have z0 : w0.heap.size = w.heap.size + 1 := by rw [hw0]; simp
  have S0 : CelsAt w0 g 1 fun _ => c := h.below B0
  have MK1 := MK w
  rw [← hw0] at MK1
  clear MK MS h hw0
  obtain ⟨w1, K1, C1, z1, B1⟩ := copy_rows w0 w.heap.size n 0 1 1 c0 g c _ C0 S0 (by show 1 = min 1 (n - 0); omega) (by omega) (by omega)
  have B1 := B0.trans (B1 _ (Nat.le_refl _))
  rw [z0] at z1
  have D1 := Lib.hid (show CelsAt w1 w.heap.size n (fun i => if i < 1 then c else zero32) from fun i hi => by have := C1 i hi; simpa using this)
  rw [Nat.sub_zero, Nat.zero_mul] at K1
  clear C1 C0 S0 B0 z0
  have MU := Lib.hid (mul_any 1 n (by omega) (by omega) w)
  have wn : IntKind.u64.wrap (n : Int) = n := by rw [IntKind.wrap_u64]; omega
  have wm : IntKind.i64.wrap ((1 * n : Nat) : Int) = n := by rw [IntKind.wrap_i64]; omega
  have hb1 := Lib.hid B1
  clear B1
  have d1 : decide ((n : Int) < 0) = false := by simp <;> omega
  have d2 : decide ((9223372036854775807 : Int) < n) = false := by simp <;> omega
  go_enter Try.func63, Try.ntmps63
  go_wp2_with (go_at_call 73; refine MU.out.mono ?_; rintro e w' ⟨rfl, rfl⟩)
  clear d1 d2 wn wm MU K1 MK1 B1
  go_loopw [8] (fun t wr => ∃ k : Nat, 1 ≤ k ∧ k ≤ n ∧ t = .int .i64 (k : Int) ∧ Hid (CelsAt wr w.heap.size n fun i => if i < k then c else zero32) ∧ Hid (Below w.heap.size w wr) ∧ w.heap.size + 1 ≤ wr.heap.size) (fun t _ => n - (intOf t).toNat)
  case atStart => exact ⟨1, Nat.le_refl _, h0, rfl, D1, hb1, z1⟩
  case round =>
    clear D1 hb1 z1
    obtain ⟨k, hk1, hkn, rfl, D, B, z⟩ := hrel
    by_cases hlt : k < n
    · obtain ⟨m, hm⟩ : ∃ m, m = Nat.min k (n - k) := ⟨_, rfl⟩
      have hm1 : 1 ≤ m := by rw [hm]; show 1 ≤ min k (n - k); omega
      have hm2 : m ≤ k := by rw [hm]; exact Nat.min_le_left _ _
      have hm3 : m ≤ n - k := by rw [hm]; exact Nat.min_le_right _ _
      have DD : CelsAt wr.drew w.heap.size n (fun i => if i < k then c else zero32) := fun i hi => (D.out i hi).drew
      have BD : Below w.heap.size w wr.drew := B.out.drew
      have zd : wr.drew.heap.size = wr.heap.size := rfl
      obtain ⟨w2, K2, C2, z2, B2⟩ := copy_rows wr.drew w.heap.size n k m k n w.heap.size c _ DD (fun i hi => by have := DD i (by omega); dsimp only at this; rwa [if_pos (show i < k by omega)] at this) hm hkn hm1
      have B3 := Lib.hid (BD.trans (B2 w.heap.size (Nat.le_refl _)))
      have D3 := Lib.hid (C2.congr (L' := fun i => if i < k + m then c else zero32) fun i _ => by
        split <;> split <;> first | rfl | (split <;> first | rfl | omega) | omega)
      have SL : ∀ W : World, (Instr.slice 93 (.slice (some ⟨w.heap.size, 0, none⟩) n n) (some (.int .i64 (k : Int))) none none).run Try.prog W = .ok (.slice (some ⟨w.heap.size, k * 32, none⟩) (n - k) (n - k)) W := fun W => by
        rw [run_slice_l (P := Try.prog) (w := W) 93 (some ⟨w.heap.size, 0, none⟩) n n Try.underlying93 .i64 k (by omega) (by omega), celSz W]
        simp [Result.andThen, sliced, show n ≠ k by omega, addr_add]
      have SH : ∀ W : World, (Instr.slice 93 (.slice (some ⟨w.heap.size, 0, none⟩) n n) none (some (.int .i64 (k : Int))) none).run Try.prog W = .ok (.slice (some ⟨w.heap.size, 0, none⟩) k n) W := fun W => by
        rw [run_slice_h (P := Try.prog) (w := W) 93 (some ⟨w.heap.size, 0, none⟩) n n Try.underlying93 .i64 k (by omega) (by omega), celSz W]
        simp [Result.andThen, sliced, addr_add]
      clear C2 B2 hm DD BD
      rw [zd] at z2
      clear zd
      go_wp2_with fail
      go_region
      go_roundw
      case rel => exact ⟨_, _, _, _, _, _, _, _, _, _, _, _, _, _, ⟨k + m, by omega, by omega, by go_num, D3, B3, by omega⟩, rfl⟩
      case measure => simp [intOf]; omega
    · obtain rfl : k = n := by omega
      go_wp2_with fail
      go_ret
      exact ⟨w.heap.size, rfl, D.out.congr (L' := fun _ => c) fun i hi => if_pos hi, Nat.le_refl _, by omega, B.out⟩
end Go.Proofs.Ytdcpgjepgajioaa
