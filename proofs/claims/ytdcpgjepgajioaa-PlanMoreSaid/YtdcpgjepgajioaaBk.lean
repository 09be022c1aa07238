/- Contracts of slices.Clone at numbers and at cellars. No conditions beyond each theorem's own. -/
import Derived.Test.YtdcpgjepgajioaaBj
import Derived.Test.YtdcpgjepgajioaaAs
import Derived.WalkSpells
set_option linter.unusedVariables false
set_option linter.unusedSimpArgs false
set_option linter.unusedSectionVars false
set_option linter.constructorNameAsVariable false
namespace Go.Proofs.Ytdcpgjepgajioaa
open Go.RowKit

attribute [local go_sem] gw_cell gw_frozen gw_size

def flatV (n : Nat) (L : Nat → List Int) : List Value := (List.range n).flatMap fun i => cV (L i)
theorem flatV_len {n : Nat} {L : Nat → List Int} (h : ∀ i, i < n → (L i).length = 32) : (flatV n L).length = n * 32 := by
  induction n with
  | zero => rfl
  | succ n ih =>
    have := ih (fun i hi => h i (by omega))
    unfold flatV at *
    rw [List.range_succ, List.flatMap_append, List.length_append, this]
    simp [cV_len, h n (by omega)]
    omega
theorem flatV_get {n : Nat} {L : Nat → List Int} (h : ∀ i, i < n → (L i).length = 32) {i j : Nat} (hi : i < n) (hj : j < 32) : (flatV n L)[i * 32 + j]? = some (.int .i64 ((L i).getD j 0)) := by
  induction n with
  | zero => omega
  | succ n ih =>
    have hl := flatV_len (n := n) (L := L) (fun i hi => h i (by omega))
    have e : flatV (n + 1) L = flatV n L ++ cV (L n) := by unfold flatV; rw [List.range_succ, List.flatMap_append]; simp
    rw [e]
    rcases Nat.lt_or_ge i n with h1 | h1
    · rw [List.getElem?_append_left (by omega)]
      exact ih (fun i hi => h i (by omega)) h1
    · obtain rfl : i = n := by omega
      rw [List.getElem?_append_right (by omega), hl, show i * 32 + j - i * 32 = j by omega]
      have hj' : j < (cV (L i)).length := by rw [cV_len, h i hi]; omega
      rw [List.getElem?_eq_getElem hj', cV_at hj']
theorem flatV_one (n : Nat) (L : Nat → List Int) : ∀ u ∈ flatV n L, u.oneCell' = true := fun u hu => by
  simp only [flatV, List.mem_flatMap] at hu
  obtain ⟨i, _, h⟩ := hu
  exact cV_one _ u h
/-- rows of cellars, one behind the other, in a block -/
def CelsAt (w : World) (g n : Nat) (L : Nat → List Int) : Prop := ∀ i, i < n → CelAt w g (i * 32) (L i)
theorem CelsAt.below {w w' : World} {g n : Nat} {L : Nat → List Int} (h : CelsAt w g n L) (hb : Below w.heap.size w w') : CelsAt w' g n L := fun i hi => (h i hi).below hb
theorem cels_news {w : World} {g n : Nat} {L : Nat → List Int} (h : CelsAt w g n L) : n = 0 ∨ ∃ ad, (some ⟨g, 0, none⟩ : Option Addr) = some ad ∧ ∀ j u, (flatV n L)[j]? = some u → w.cell? (ad.add j) = some u := by
  refine .inr ⟨_, rfl, fun j u hu => ?_⟩
  have hl := flatV_len (fun i hi => (h i hi).len)
  have hj : j < n * 32 := by have := (List.getElem?_eq_some_iff.1 hu).1; omega
  have e : j = (j / 32) * 32 + j % 32 := by omega
  have h1 : j / 32 < n := by omega
  rw [e, flatV_get (fun i hi => (h i hi).len) h1 (Nat.mod_lt _ (by omega))] at hu
  rw [addr_add, Nat.zero_add]
  have := (h (j / 32) h1).cell (j % 32) (Nat.mod_lt _ (by omega))
  rw [← e] at this
  rw [this]; exact hu
theorem cels_of_own {w : World} {base n g c : Nat} {L : Nat → List Int} (h : w.ownsRow base 74 32 (.slice (some ⟨g, 0, none⟩) n c) n (flatV n L)) (hl : ∀ i, i < n → (L i).length = 32) : CelsAt w g n L ∧ base ≤ g ∧ g < w.heap.size := by
  have hf : ∀ k, w.frozen? ⟨g, k, none⟩ = false := by
    rcases h.2 with ⟨hv, _⟩ | ⟨g', cap, cur, hv, h1, h2, _⟩
    · cases hv
    · cases hv; exact fun k => frozen_of_block h2 k
  refine ⟨fun i hi => ⟨hl i hi, fun j hj => ?_, hf⟩, ?_⟩
  · have := h.cells (g := g) rfl (i * 32 + j) _ (flatV_get hl hi hj)
    rw [addr_add, Nat.zero_add] at this
    exact this
  · rcases h.2 with ⟨hv, _⟩ | ⟨g', cap, cur, hv, h1, h2, _⟩
    · cases hv
    · cases hv; exact ⟨h1, (Array.getElem?_eq_some_iff.1 h2).1⟩
theorem infoCel3 : (Try.prog.info? 74).map (fun i => (i.zero, i.size, i.bytes)) = some (some (.agg #[.int .i64 0, .int .i64 0, .int .i64 0, .int .i64 0, .int .i64 0, .int .i64 0, .int .i64 0, .int .i64 0, .int .i64 0, .int .i64 0, .int .i64 0, .int .i64 0, .int .i64 0, .int .i64 0, .int .i64 0, .int .i64 0, .int .i64 0, .int .i64 0, .int .i64 0, .int .i64 0, .int .i64 0, .int .i64 0, .int .i64 0, .int .i64 0, .int .i64 0, .int .i64 0, .int .i64 0, .int .i64 0, .int .i64 0, .int .i64 0, .int .i64 0, .int .i64 0]), 32, 256) := by kernel_rfl
theorem ints_of_own' {w : World} {base n c : Nat} {a : Option Addr} {L : Nat → Int} (h : w.ownsRow base 3 1 (.slice a n c) n (intsV n L)) : IntsAt w a n L := by
  rcases h.2 with ⟨hv, h0⟩ | ⟨g, cap, cur, hv, h1, h2, _⟩
  · exact .inl h0
  · simp only [Value.slice.injEq] at hv
    obtain ⟨rfl, _, rfl⟩ := hv
    refine .inr ⟨g, 0, rfl, (Array.getElem?_eq_some_iff.1 h2).1, fun i hi => ?_⟩
    have := h.cells (g := g) rfl i (.int .i64 (L i)) (by simp [intsV, hi])
    rw [addr_add] at this
    simpa using this

set_option maxRecDepth 100000 in
set_option maxHeartbeats 4000000 in
theorem cloneI_any (a : Option Addr) (n c : Nat) (L : Nat → Int) (w : World) (h : IntsAt w a n L) (hl : n ≤ 1000) :
    Calls Try.prog 37 #[.slice a n c] w fun e w' => ∃ a' c', e = .returned (.slice a' n c') ∧ w'.ownsRow w.heap.size 3 1 (.slice a' n c') n (intsV n L) ∧ Below w.heap.size w w' := by
  have hnil : ∀ (w : World) (a : Option Addr) (n c n' c' : Nat), (binOp .eql 22 (.slice a n c) (.slice none n' c')).run Try.prog w = .ok (.bool a.isNone) w := fun w a n c n' c' => Lib.run_eql_slice_nil w _ _ a n c n' c' Try.underlying22
  cases ha : a with
  | none =>
    subst ha
    have h0 : n = 0 := by
      rcases h with h | ⟨b, off, e, _⟩
      · exact h
      · cases e
    subst h0
    clear h
    go_enter Try.func37, Try.ntmps37
    go_wp2_with fail
    go_ret
    exact ⟨none, 0, rfl, World.ownsRow_nil _ _ _ _, Below.refl _ _⟩
  | some ad =>
    subst ha
    have H := Lib.hid (ints_news (h.below (below_alloc w (.cells #[] 3)))); clear h
    obtain ⟨j0, jh, jy0, jy1, jy2⟩ := info_parts infoInt
    have JI := Lib.hid jh; have Y0 := Lib.hid jy0; have Y1 := Lib.hid jy1; have Y2 := Lib.hid jy2
    clear jh jy0 jy1 jy2
    have OW : Hid ((w.alloc (.cells #[] 3)).ownsRow w.heap.size 3 1 (.slice (some ⟨w.heap.size, 0, none⟩) 0 0) 0 []) := Lib.hid ⟨rfl, .inr ⟨w.heap.size, 0, #[], rfl, Nat.le_refl _, alloc_at rfl, Nat.le_refl _, Nat.zero_le _, rfl, rfl⟩⟩
    go_enter Try.func37, Try.ntmps37
    go_wp2_with (at_builtin; refine wpList_append_src (by rfl) _ _ 22 rfl w.heap.size 3 j0 (.int .i64 0) 1 8 Try.underlying22 JI.out Y0.out Y1.out Y2.out rfl (by decide) _ 0 [] rfl OW.out (some ad) n c (intsV n L) rfl (intsV_len _ _) H.out (intsV_one _ _) (by unfold maxLen; omega) (by omega) (by simp) ?_; intro v9 w9 hown9 hgrow9)
    rw [Nat.zero_add, List.nil_append] at hown9
    obtain ⟨a9, c9, rfl⟩ := own_form hown9
    have HO := Lib.hid hown9
    have HB := Lib.hid ((below_alloc w (.cells #[] 3)).grown hgrow9 (by simp) (fun b hb => by cases hb; exact Nat.le_refl _))
    clear hown9 hgrow9
    go_wp2_with fail
    go_ret
    exact ⟨a9, c9, rfl, HO.out, HB.out⟩

set_option maxRecDepth 100000 in
set_option maxHeartbeats 4000000 in
theorem cloneC_any (g n c : Nat) (L : Nat → List Int) (w : World) (h : CelsAt w g n L) (h0 : 1 ≤ n) (hl : n ≤ 1000) :
    Calls Try.prog 62 #[.slice (some ⟨g, 0, none⟩) n c] w fun e w' => ∃ g' c', e = .returned (.slice (some ⟨g', 0, none⟩) n c') ∧ CelsAt w' g' n L ∧ w.heap.size ≤ g' ∧ g' < w'.heap.size ∧ Below w.heap.size w w' := by
  have hnil : ∀ (w : World) (a : Option Addr) (n c n' c' : Nat), (binOp .eql 93 (.slice a n c) (.slice none n' c')).run Try.prog w = .ok (.bool a.isNone) w := fun w a n c n' c' => Lib.run_eql_slice_nil w _ _ a n c n' c' Try.underlying93
  have HL := Lib.hid (fun i hi => (h i hi).len)
  have H := Lib.hid (cels_news (h.below (below_alloc w (.cells #[] 74)))); clear h
  obtain ⟨j0, jh, jy0, jy1, jy2⟩ := info_parts infoCel3
  have JI := Lib.hid jh; have Y0 := Lib.hid jy0; have Y1 := Lib.hid jy1; have Y2 := Lib.hid jy2
  clear jh jy0 jy1 jy2
  have OW : Hid ((w.alloc (.cells #[] 74)).ownsRow w.heap.size 74 32 (.slice (some ⟨w.heap.size, 0, none⟩) 0 0) 0 []) := Lib.hid ⟨rfl, .inr ⟨w.heap.size, 0, #[], rfl, Nat.le_refl _, alloc_at rfl, Nat.le_refl _, Nat.zero_le _, rfl, rfl⟩⟩
  go_enter Try.func62, Try.ntmps62
  go_wp2_with (at_builtin; refine wpList_append_src (by rfl) _ _ 93 rfl w.heap.size 74 j0 (.agg #[.int .i64 0, .int .i64 0, .int .i64 0, .int .i64 0, .int .i64 0, .int .i64 0, .int .i64 0, .int .i64 0, .int .i64 0, .int .i64 0, .int .i64 0, .int .i64 0, .int .i64 0, .int .i64 0, .int .i64 0, .int .i64 0, .int .i64 0, .int .i64 0, .int .i64 0, .int .i64 0, .int .i64 0, .int .i64 0, .int .i64 0, .int .i64 0, .int .i64 0, .int .i64 0, .int .i64 0, .int .i64 0, .int .i64 0, .int .i64 0, .int .i64 0, .int .i64 0]) 32 256 Try.underlying93 JI.out Y0.out Y1.out Y2.out rfl (by decide) _ 0 [] rfl OW.out (some ⟨g, 0, none⟩) n c (flatV n L) rfl (flatV_len HL.out) H.out (flatV_one _ _) (by unfold maxLen; omega) (by omega) (by simp) ?_; intro v9 w9 hown9 hgrow9)
  rw [Nat.zero_add, List.nil_append] at hown9
  have hfo : ∃ g9 c9, v9 = .slice (some ⟨g9, 0, none⟩) n c9 := by
    rcases hown9.2 with ⟨_, h⟩ | ⟨g, cap, cur, hv, _⟩
    · omega
    · exact ⟨g, cap, hv⟩
  obtain ⟨g9, c9, rfl⟩ := hfo
  have HO := Lib.hid hown9
  have HB := Lib.hid ((below_alloc w (.cells #[] 74)).grown hgrow9 (by simp) (fun b hb => by cases hb; exact Nat.le_refl _))
  clear hown9 hgrow9
  go_wp2_with fail
  go_ret
  obtain ⟨q1, q2, q3⟩ := cels_of_own HO.out HL.out
  exact ⟨g9, c9, rfl, q1, q2, q3, HB.out⟩
end Go.Proofs.Ytdcpgjepgajioaa
