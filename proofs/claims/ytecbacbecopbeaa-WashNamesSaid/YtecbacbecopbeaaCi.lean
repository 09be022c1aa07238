/- Rows of whole numbers; contracts of slices.Clone and of Ints at like lists. No conditions beyond each theorem's own. -/
import Derived.Test.YtecbacbecopbeaaEd
import Derived.Test.YtecbacbecopbeaaCd
import Derived.WalkSpells
set_option linter.unusedVariables false
set_option linter.unusedSimpArgs false
set_option linter.unusedSectionVars false
set_option linter.constructorNameAsVariable false
namespace Go.Proofs.Ytecbacbecopbeaa
open Go.RowKit

attribute [local go_sem] gw_cell gw_frozen gw_size

def natsV (l : List Nat) : List Value := l.map fun (i : Nat) => .int .i64 (i : Int)
theorem natsV_len (l : List Nat) : (natsV l).length = l.length * 1 := by simp [natsV]
theorem natsV_one (l : List Nat) : ∀ u ∈ natsV l, u.oneCell' = true := by
  intro u hu
  simp only [natsV, List.mem_map] at hu
  obtain ⟨i, _, rfl⟩ := hu
  rfl
theorem natsV_push (l : List Nat) (i : Nat) : natsV l ++ [.int .i64 (i : Int)] = natsV (l ++ [i]) := by simp [natsV]
theorem infoInt : (Try.prog.info? 3).map (fun i => (i.zero, i.size, i.bytes)) = some (some (.int .i64 0), 1, 8) := by kernel_rfl
/-- an owned row of numbers -/
def RowN (w : World) (base : Nat) (a : Option Addr) (l : List Nat) (c : Nat) : Prop := w.ownsRow base 3 1 (.slice a l.length c) l.length (natsV l)
theorem RowN.nil (w : World) (base : Nat) : RowN w base none [] 0 := World.ownsRow_nil _ _ _ _
theorem RowN.form {w : World} {base c : Nat} {a : Option Addr} {l : List Nat} (h : RowN w base a l c) : (a = none ∧ l = [] ∧ c = 0) ∨ ∃ g, a = some ⟨g, 0, none⟩ ∧ base ≤ g ∧ g < w.heap.size := by
  rcases h.2 with ⟨hv, hn⟩ | ⟨g, cap, cur, hv, h1, h2, _⟩
  · simp only [Value.slice.injEq] at hv
    exact .inl ⟨hv.1, List.eq_nil_of_length_eq_zero hn, hv.2.2⟩
  · simp only [Value.slice.injEq] at hv
    exact .inr ⟨g, hv.1, h1, (Array.getElem?_eq_some_iff.1 h2).1⟩
theorem RowN.news {w : World} {base c : Nat} {a : Option Addr} {l : List Nat} (h : RowN w base a l c) : l.length = 0 ∨ ∃ ad, a = some ad ∧ ∀ j u, (natsV l)[j]? = some u → w.cell? (ad.add j) = some u := by
  rcases h.form with ⟨_, rfl, _⟩ | ⟨g, rfl, _⟩
  · exact .inl rfl
  · exact .inr ⟨_, rfl, h.cells (g := g) rfl⟩
theorem RowN.ints {w : World} {base c : Nat} {a : Option Addr} {l : List Nat} (h : RowN w base a l c) : IntsAt w a l.length (fun i => ((l.getD i 0 : Nat) : Int)) := by
  rcases h.form with ⟨_, rfl, _⟩ | ⟨g, rfl, _, hg⟩
  · exact .inl rfl
  · refine .inr ⟨g, 0, rfl, hg, fun i hi => ?_⟩
    have := h.cells (g := g) rfl i (.int .i64 ((l.getD i 0 : Nat) : Int)) (by simp [natsV, List.getD, hi])
    rwa [addr_add] at this
/-- the row without its last number -/
theorem RowN.pop {w : World} {base c g : Nat} {l : List Nat} {x : Nat} (h : RowN w base (some ⟨g, 0, none⟩) (l ++ [x]) c) : RowN w base (some ⟨g, 0, none⟩) l c := by
  refine ⟨natsV_len l, ?_⟩
  rcases h.2 with ⟨hv, _⟩ | ⟨g', cap, cur, hv, h1, h2, h3, h4, h5, h6⟩
  · cases hv
  · cases hv
    refine .inr ⟨g, c, cur, rfl, h1, h2, by simp at h3; omega, h4, h5, ?_⟩
    have := congrArg (List.take l.length) h6
    rw [List.take_take] at this
    simp only [List.length_append, List.length_singleton, Nat.mul_one] at this
    rw [show min l.length (l.length + 1) = l.length by omega] at this
    rw [Nat.mul_one, this]
    simp [natsV]

set_option maxRecDepth 100000 in
set_option maxHeartbeats 2000000 in
theorem clone_any (a : Option Addr) (c : Nat) (l : List Nat) (base : Nat) (w : World) (h : RowN w base a l c) (hl : l.length ≤ 1000) :
    Calls Try.prog 81 #[.slice a l.length c] w fun e w' => ∃ a' c', e = .returned (.slice a' l.length c') ∧ RowN w' w.heap.size a' l c' ∧ Below w.heap.size w w' := by
  have hnil : ∀ (w : World) (a : Option Addr) (n c n' c' : Nat), (binOp .eql 33 (.slice a n c) (.slice none n' c')).run Try.prog w = .ok (.bool a.isNone) w := fun w a n c n' c' => Lib.run_eql_slice_nil w _ _ a n c n' c' Try.underlying33
  rcases h.form with ⟨rfl, rfl, rfl⟩ | ⟨g, rfl, hg, hg2⟩
  · go_enter Try.func81, Try.ntmps81
    go_wp2_with fail
    go_ret
    exact ⟨none, 0, rfl, RowN.nil _ _, Below.refl _ _⟩
  · have H := Lib.hid h; clear h
    obtain ⟨j0, jh, jy0, jy1, jy2⟩ := info_parts infoInt
    have JI := Lib.hid jh; have Y0 := Lib.hid jy0; have Y1 := Lib.hid jy1; have Y2 := Lib.hid jy2
    clear jh jy0 jy1 jy2
    have OW : Hid ((w.alloc (.cells #[] 3)).ownsRow w.heap.size 3 1 (.slice (some ⟨w.heap.size, 0, none⟩) 0 0) 0 []) := Lib.hid ⟨rfl, .inr ⟨w.heap.size, 0, #[], rfl, Nat.le_refl _, alloc_at rfl, Nat.le_refl _, Nat.zero_le _, rfl, rfl⟩⟩
    have HA := Lib.hid (show RowN (w.alloc (.cells #[] 3)) base (some ⟨g, 0, none⟩) l c from World.ownsRow.alloc H.out _)
    go_enter Try.func81, Try.ntmps81
    go_wp2_with (at_builtin; refine wpList_append_src (by rfl) _ _ 33 rfl w.heap.size 3 j0 (.int .i64 0) 1 8 Try.underlying33 JI.out Y0.out Y1.out Y2.out rfl (by decide) _ 0 [] rfl OW.out (some ⟨g, 0, none⟩) l.length c (natsV l) rfl (natsV_len l) HA.out.news (natsV_one l) (by unfold maxLen; omega) (by omega) (by simp) ?_; intro v9 w9 hown9 hgrow9)
    rw [Nat.zero_add, List.nil_append] at hown9
    obtain ⟨a9, c9, rfl⟩ := own_form hown9
    have HO := Lib.hid hown9
    have HB := Lib.hid ((below_alloc w (.cells #[] 3)).grown hgrow9 (by simp) (fun b hb => by cases hb; exact Nat.le_refl _))
    clear hown9 hgrow9
    go_wp2_with fail
    go_ret
    exact ⟨a9, c9, rfl, HO.out, HB.out⟩

set_option maxHeartbeats 1000000 in
theorem ints_t (a b : Option Addr) (n ca cb : Nat) (F : Nat → Int) (w : World) (hn : n ≤ 9223372036854775807) (hA : IntsAt w a n F) (hB : IntsAt w b n F) :
    Calls Try.prog 47 #[.slice a n ca, .slice b n cb] w fun e w' => e = .returned (.bool true) ∧ Below w.heap.size w w' := by
  have HA := Lib.hid hA; clear hA
  have HB := Lib.hid hB; clear hB
  go_enter Try.func47, Try.ntmps47
  go_wp2_with fail
  go_loopw [5] (fun i wr => ∃ k : Nat, k ≤ n ∧ i = .int .i64 k ∧ ∃ x, wr = gw w x) (fun i _ => n - (intOf i).toNat)
  case atStart => exact ⟨0, Nat.zero_le _, rfl, ⟨#[], w.drawn⟩, by simp [gw]⟩
  case round =>
    obtain ⟨k, hk, rfl, x, rfl⟩ := hrel
    by_cases hlt : k < n
    · rcases HA.out with hz | ⟨b1, o1, rfl, l1, h1⟩
      · omega
      · rcases HB.out with hz | ⟨b2, o2, rfl, l2, h2⟩
        · omega
        · have d0 := h1 k hlt
          have e0 := h2 k hlt
          clear h1 h2
          go_wp2_with fail
          refine wp_region_gw2 (by kernel_rfl) (by kernel_rfl) ?_
          repeat (go_big_quiet_step (fail))
          refine wpQuiet_nil ?_
          rintro _ ⟨z, rfl⟩
          go_wp2_with fail
          go_roundw
          case rel => exact ⟨k + 1, by omega, by go_num, z, rfl⟩
          case measure => simp [intOf]; omega
    · obtain rfl : n = k := by omega
      go_wp2_with fail
      go_ret
      exact ⟨rfl, below_gw w x⟩
end Go.Proofs.Ytecbacbecopbeaa
