/- Contract of the closure of StrengthOwns. No conditions beyond each theorem's own. -/
import Derived.Test.YtohcopdfdmjhnaaUc
import Derived.Test.YtohcopdfdmjhnaaAn
import Derived.Test.YtohcopdfdmjhnaaAc
import Derived.Test.YtohcopdfdmjhnaaSi
set_option linter.unusedVariables false
set_option linter.unusedSimpArgs false
set_option linter.unusedSectionVars false
set_option linter.constructorNameAsVariable false
namespace Go.Proofs.Ytohcopdfdmjhnaa.L1
open Go.RowKit
open Go.Proofs.Ytohcopdfdmjhnaa

attribute [local go_sem] gw_cell gw_frozen gw_size

theorem infoLI : (Try.prog.info? 22).map (fun i => (i.zero, i.size, i.bytes)) = some (some (.slice none 0 0), 1, 24) := by kernel_rfl
/-- the rows of both matrices, one behind the other -/
def Tab.rA (t : Tab) (i : Nat) : Option Addr := if i < t.H.n then t.H.rA i else t.R.rA (i - t.H.n)
def Tab.rN (t : Tab) (i : Nat) : Nat := if i < t.H.n then t.H.rN i else t.R.rN (i - t.H.n)
def Tab.rC (t : Tab) (i : Nat) : Nat := if i < t.H.n then t.H.rC i else t.R.rC (i - t.H.n)
def Tab.rM (t : Tab) (i : Nat) : Nat → Int := if i < t.H.n then t.H.M i else t.R.M (i - t.H.n)
def Tab.rows (t : Tab) : List Value := (List.range t.H.n).map t.H.row ++ (List.range t.R.n).map t.R.row
theorem Tab.rows_get (t : Tab) (i : Nat) (hi : i < t.H.n + t.R.n) : t.rows[i]? = some (.slice (t.rA i) (t.rN i) (t.rC i)) := by
  unfold Tab.rows Tab.rA Tab.rN Tab.rC
  by_cases h : i < t.H.n
  · rw [List.getElem?_append_left (by simpa using h)]
    simp [h, Rows.row]
  · rw [List.getElem?_append_right (by simpa using Nat.le_of_not_lt h)]
    have h2 : i - t.H.n < t.R.n := by omega
    simp [h, h2, Rows.row]
theorem Tab.rows_ints {t : Tab} {w : World} (h : t.In w) (i : Nat) (hi : i < t.H.n + t.R.n) : IntsAt w (t.rA i) (t.rN i) (t.rM i) := by
  unfold Tab.rA Tab.rN Tab.rM
  by_cases h1 : i < t.H.n
  · simp only [if_pos h1]; exact h.iH.rows i h1
  · simp only [if_neg h1]; exact h.iR.rows _ (by omega)
theorem Tab.Small.row {t : Tab} (h : t.Small) (i : Nat) (hi : i < t.H.n + t.R.n) : t.rN i ≤ 40 := by
  unfold Tab.rN
  split
  · rename_i h1; exact h.HR i h1
  · exact h.RR _ (by omega)
theorem cells_news {w : World} {a : Option Addr} {n : Nat} {V : Nat → Value} (h : CellsAt w a n V) : n = 0 ∨ ∃ ad, a = some ad ∧ ∀ j u, ((List.range n).map V)[j]? = some u → w.cell? (ad.add j) = some u := by
  rcases h with h | ⟨b, off, rfl, _, hc⟩
  · exact .inl h
  · refine .inr ⟨_, rfl, fun j u hu => ?_⟩
    have hj : j < n := by have := (List.getElem?_eq_some_iff.1 hu).1; simpa using this
    have e : V j = u := by simpa [hj] using hu
    rw [addr_add, ← e]
    exact hc j hj
theorem rows_one (r : Rows) (n : Nat) : ∀ u ∈ (List.range n).map r.row, u.oneCell' = true := by
  intro u hu
  obtain ⟨i, _, rfl⟩ := List.mem_map.1 hu
  rfl
/-- the flat list of numbers, as far as k rows -/
def Tab.flatI (t : Tab) (k : Nat) : List Int := (List.range t.nT).map t.T ++ (List.range t.nS).map t.S ++ (List.range k).flatMap fun i => (List.range (t.rN i)).map (t.rM i)
theorem Tab.flat_succ (t : Tab) (k : Nat) : t.flatI (k + 1) = t.flatI k ++ (List.range (t.rN k)).map (t.rM k) := by
  unfold Tab.flatI; simp [List.range_succ]
theorem intsV_map (n : Nat) (L : Nat → Int) : intsV n L = ((List.range n).map L).map (Value.int .i64) := by unfold intsV; simp
theorem Tab.flat_len {t : Tab} (h : t.Small) : ∀ k, k ≤ t.H.n + t.R.n → (t.flatI k).length ≤ 80 + 40 * k
  | 0, _ => by unfold Tab.flatI; have := h.nT; have := h.nS; simp; omega
  | k + 1, hk => by
    have a := Tab.flat_len h k (by omega)
    have b := h.row k (by omega)
    rw [Tab.flat_succ, List.length_append, List.length_map, List.length_range]; omega
theorem own_ne {w : World} {b1 b2 s1 s2 n1 n2 : Nat} {e1 e2 : TypeId} {v1 v2 : Value} {xs1 xs2 : List Value} (h1 : w.ownsRow b1 e1 s1 v1 n1 xs1) (h2 : w.ownsRow b2 e2 s2 v2 n2 xs2) (he : e1 ≠ e2) : v1.ownBlock = none ∨ v1.ownBlock ≠ v2.ownBlock := by
  rcases h1.2 with ⟨rfl, _⟩ | ⟨g1, c1, cur1, rfl, _, hb1, _⟩
  · exact .inl rfl
  · refine .inr fun h => ?_
    rcases h2.2 with ⟨rfl, _⟩ | ⟨g2, c2, cur2, rfl, _, hb2, _⟩
    · cases h
    · have e : g1 = g2 := by simpa [Value.ownBlock] using h
      subst e
      rw [hb1] at hb2
      injection hb2 with hb2
      injection hb2 with _ hb2
      exact he hb2
/-- a list of numbers that was made -/
def FlatAt (l : List Int) (v : Value) (w : World) : Prop := ∃ a c, v = .slice a l.length c ∧ IntsAt w a l.length (fun i => l.getD i 0)
theorem flat_of_own {w : World} {base : Nat} {e : TypeId} {v : Value} {l : List Int} (h : w.ownsRow base e 1 v l.length (l.map (Value.int .i64))) : FlatAt l v w := by
  rcases h.2 with ⟨rfl, h0⟩ | ⟨g, cap, cur, rfl, hg, hgb, _⟩
  · exact ⟨none, 0, by rw [h0], .inl h0⟩
  · refine ⟨_, cap, rfl, .inr ⟨g, 0, rfl, (Array.getElem?_eq_some_iff.1 hgb).1, fun i hi => ?_⟩⟩
    rw [Nat.zero_add]
    exact row_cells h i _ (by simp [hi])

set_option maxRecDepth 100000 in
set_option maxHeartbeats 4000000 in
theorem flat_any (t : Tab) (bt : Nat) (w : World) (hI : t.In w) (hs : t.Small) (z0 : w.cell? ⟨bt, 0, none⟩ = some (.slice t.aT t.nT t.cT)) (z1 : w.cell? ⟨bt, 1, none⟩ = some (.slice t.aS t.nS t.cS)) (z2 : w.cell? ⟨bt, 2, none⟩ = some (.slice t.H.a t.H.n t.H.c)) (z3 : w.cell? ⟨bt, 3, none⟩ = some (.slice t.R.a t.R.n t.R.c)) :
    Calls Try.prog 34 #[.pointer (some ⟨bt, 0, none⟩)] w fun e w' => ∃ v, e = .returned v ∧ FlatAt (t.flatI (t.H.n + t.R.n)) v w' ∧ Below w.heap.size w w' := by
  obtain ⟨i0, hi0, hx0, hx1, hx2⟩ := info_parts infoI
  have II := Lib.hid hi0; have IZ0 := Lib.hid hx0; have IZ1 := Lib.hid hx1; have IZ2 := Lib.hid hx2
  clear hi0 hx0 hx1 hx2
  obtain ⟨j0, hi0, hx0, hx1, hx2⟩ := info_parts infoLI
  have JI := Lib.hid hi0; have JZ0 := Lib.hid hx0; have JZ1 := Lib.hid hx1; have JZ2 := Lib.hid hx2
  clear hi0 hx0 hx1 hx2
  have lb := World.block_lt_of_cell? w _ z0
  dsimp only at lb
  have HI := Lib.hid hI
  have HSM := Lib.hid hs
  have n1 := hs.nT; have n2 := hs.nS; have n3 := hs.H; have n4 := hs.R
  clear hI hs
  go_enter Try.func34, Try.ntmps34
  go_upto_region 1 with (fail)
  refine wp_region_steps (fun w' => ∃ x, w' = gw w x) [([1, 2, 4, 5], 0), ([], 3), ([], 6)] [7] [] (by kernel_rfl) (by kernel_rfl) ?_
  rintro _ ⟨x0, rfl⟩
  refine ⟨⟨_, rfl⟩, ?_⟩
  refine wpSeg_cons ?_
  simp only [pickL, List.getElem?_cons_zero, List.getElem?_cons_succ]
  repeat (go_big_quiet_step (fail))
  refine wpQuiet_nil ?_
  go_wp2_with fail
  obtain ⟨V, hV⟩ : ∃ V, (gw w x0).alloc (.cells #[] 3) = V := ⟨_, rfl⟩
  have BV := Lib.hid (show Below w.heap.size w V by rw [← hV]; exact (below_gw w x0).alloc (by simp [gw_size]) _)
  obtain ⟨g0, hg0⟩ : ∃ g, w.heap.size + x0.bs.size = g := ⟨_, rfl⟩
  have gl : w.heap.size ≤ g0 := by omega
  have O0 := Lib.hid (show V.ownsRow w.heap.size 3 1 (.slice (some ⟨g0, 0, none⟩) 0 0) 0 [] by
    rw [← hV]; exact ⟨rfl, .inr ⟨g0, 0, #[], rfl, gl, alloc_at (by simp [gw_size]; omega), Nat.le_refl _, Nat.zero_le _, rfl, rfl⟩⟩)
  rw [hV, hg0]
  clear hV hg0
  show (∃ x, V = gw w x) ∧ _
  refine ⟨gw_of_below BV.out, ?_⟩
  refine wpSeg_cons ?_
  simp only [pickL, List.getElem?_cons_zero, List.getElem?_cons_succ]
  refine wpQuiet_nil ?_
  have NT := Lib.hid (ints_news (HI.out.below BV.out).iT)
  go_wp2_with (at_builtin; refine wpList_append_src (by rfl) _ _ 22 rfl w.heap.size 3 i0 (.int .i64 0) 1 8 Try.underlying22 II.out IZ0.out IZ1.out IZ2.out rfl (by decide) _ 0 [] rfl O0.out t.aT t.nT t.cT (intsV t.nT t.T) rfl (intsV_len _ _) NT.out (intsV_one _ _) (by unfold maxLen; omega) (by omega) BV.out.size ?_; intro v8 w8 own8 grow8)
  rw [Nat.zero_add, List.nil_append] at own8
  have B8 := Lib.hid (BV.out.grown grow8 BV.out.size (fun b hb => by cases hb; exact gl))
  obtain ⟨a8, c8, rfl⟩ := own_form own8
  have O8 := Lib.hid own8
  clear own8 grow8 NT O0 BV
  show (∃ x, w8 = gw w x) ∧ _
  refine ⟨gw_of_below B8.out, ?_⟩
  refine wpSeg_cons ?_
  simp only [pickL, List.getElem?_cons_zero, List.getElem?_cons_succ]
  refine wpQuiet_nil ?_
  have NS := Lib.hid (ints_news (HI.out.below B8.out).iS)
  go_wp2_with (at_builtin; refine wpList_append_src (by rfl) _ _ 22 rfl w.heap.size 3 i0 (.int .i64 0) 1 8 Try.underlying22 II.out IZ0.out IZ1.out IZ2.out rfl (by decide) _ t.nT (intsV t.nT t.T) rfl O8.out t.aS t.nS t.cS (intsV t.nS t.S) rfl (intsV_len _ _) NS.out (intsV_one _ _) (by unfold maxLen; omega) (by omega) B8.out.size ?_; intro v11 w11 own11 grow11)
  have B11 := Lib.hid (B8.out.grown grow11 B8.out.size (fun b hb => (O8.out.lt b hb).1))
  have O11 : Hid (w11.ownsRow w.heap.size 3 1 v11 (t.flatI 0).length ((t.flatI 0).map (Value.int .i64))) := Lib.hid (by
    have e1 : t.flatI 0 = (List.range t.nT).map t.T ++ (List.range t.nS).map t.S := by unfold Tab.flatI; simp
    rw [e1, List.length_append, List.length_map, List.length_map, List.length_range, List.length_range, List.map_append, ← intsV_map, ← intsV_map]; exact own11)
  clear own11 grow11 NS O8 B8
  show (∃ x, w11 = gw w x) ∧ _
  refine ⟨gw_of_below B11.out, ?_⟩
  refine wpSeg_nil ?_
  simp only [pickL, List.getElem?_cons_zero, List.getElem?_cons_succ]
  repeat (go_big_quiet_step (fail))
  refine wpQuiet_nil ?_
  refine contN_nil ?_
  have y2 := below_cell B11.out z2
  have y3 := below_cell B11.out z3
  have lb2 := Nat.lt_of_lt_of_le lb B11.out.size
  go_upto_region 2 with (fail)
  refine wp_region_steps (fun w' => ∃ x, w' = gw w11 x) [([1, 2, 4, 5, 8], 0), ([], 3), ([], 6), ([], 7)] [] [] (by kernel_rfl) (by kernel_rfl) ?_
  rintro _ ⟨x1, rfl⟩
  refine ⟨⟨_, rfl⟩, ?_⟩
  refine wpSeg_cons ?_
  simp only [pickL, List.getElem?_cons_zero, List.getElem?_cons_succ]
  repeat (go_big_quiet_step (fail))
  refine wpQuiet_nil ?_
  go_wp2_with fail
  obtain ⟨V, hV⟩ : ∃ V, (gw w11 x1).alloc (.cells #[] 22) = V := ⟨_, rfl⟩
  have BV := Lib.hid (show Below w11.heap.size w11 V by rw [← hV]; exact (below_gw w11 x1).alloc (by simp [gw_size]) _)
  obtain ⟨g1, hg1⟩ : ∃ g, w11.heap.size + x1.bs.size = g := ⟨_, rfl⟩
  have gl1 : w11.heap.size ≤ g1 := by omega
  have P0 := Lib.hid (show V.ownsRow w11.heap.size 22 1 (.slice (some ⟨g1, 0, none⟩) 0 0) 0 [] by
    rw [← hV]; exact ⟨rfl, .inr ⟨g1, 0, #[], rfl, gl1, alloc_at (by simp [gw_size]; omega), Nat.le_refl _, Nat.zero_le _, rfl, rfl⟩⟩)
  rw [hV, hg1]
  clear hV hg1
  show (∃ x, V = gw w11 x) ∧ _
  refine ⟨gw_of_below BV.out, ?_⟩
  refine wpSeg_cons ?_
  simp only [pickL, List.getElem?_cons_zero, List.getElem?_cons_succ]
  refine wpQuiet_nil ?_
  have NH := Lib.hid (cells_news ((HI.out.below B11.out).below BV.out).iH.cells)
  go_wp2_with (at_builtin; refine wpList_append_src (by rfl) _ _ 23 rfl w11.heap.size 22 j0 (.slice none 0 0) 1 24 Try.underlying23 JI.out JZ0.out JZ1.out JZ2.out rfl (by decide) _ 0 [] rfl P0.out t.H.a t.H.n t.H.c ((List.range t.H.n).map t.H.row) rfl (by simp) NH.out (rows_one _ _) (by unfold maxLen; omega) (by omega) BV.out.size ?_; intro v15 w15 own15 grow15)
  rw [Nat.zero_add, List.nil_append] at own15
  have B15 := Lib.hid (BV.out.grown grow15 BV.out.size (fun b hb => by cases hb; exact gl1))
  obtain ⟨a15, c15, rfl⟩ := own_form own15
  have P15 := Lib.hid own15
  clear own15 grow15 NH P0 BV
  show (∃ x, w15 = gw w11 x) ∧ _
  refine ⟨gw_of_below B15.out, ?_⟩
  refine wpSeg_cons ?_
  simp only [pickL, List.getElem?_cons_zero, List.getElem?_cons_succ]
  refine wpQuiet_nil ?_
  have NR := Lib.hid (cells_news ((HI.out.below B11.out).below B15.out).iR.cells)
  go_wp2_with (at_builtin; refine wpList_append_src (by rfl) _ _ 23 rfl w11.heap.size 22 j0 (.slice none 0 0) 1 24 Try.underlying23 JI.out JZ0.out JZ1.out JZ2.out rfl (by decide) _ t.H.n ((List.range t.H.n).map t.H.row) rfl P15.out t.R.a t.R.n t.R.c ((List.range t.R.n).map t.R.row) rfl (by simp) NR.out (rows_one _ _) (by unfold maxLen; omega) (by omega) B15.out.size ?_; intro v18 w18 own18 grow18)
  have B18 := Lib.hid (B15.out.grown grow18 B15.out.size (fun b hb => (P15.out.lt b hb).1))
  obtain ⟨a18, c18, rfl⟩ := own_form own18
  have P18 : Hid (w18.ownsRow w11.heap.size 22 1 (.slice a18 (t.H.n + t.R.n) c18) (t.H.n + t.R.n) t.rows) := Lib.hid own18
  clear own18 grow18 NR P15 B15
  show (∃ x, w18 = gw w11 x) ∧ _
  refine ⟨gw_of_below B18.out, ?_⟩
  refine wpSeg_cons ?_
  simp only [pickL, List.getElem?_cons_zero, List.getElem?_cons_succ]
  refine wpQuiet_nil ?_
  go_wp2_with fail
  show (∃ x, w18 = gw w11 x) ∧ _
  refine ⟨gw_of_below B18.out, ?_⟩
  refine wpSeg_nil ?_
  simp only [pickL]
  refine wpQuiet_nil ?_
  refine contN_nil ?_
  obtain ⟨N, hN⟩ : ∃ N, t.H.n + t.R.n = N := ⟨_, rfl⟩
  have P0 := P18.out
  rw [hN] at P0
  have P1 := Lib.hid P0
  have HN := Lib.hid hN
  simp only [hN]
  have nl : N ≤ 80 := by omega
  have Q0 := Lib.hid (own_below O11.out B18.out)
  have B0 := Lib.hid (B11.out.trans (B18.out.mono B11.out.size))
  clear P0 hN P18 O11 B18 B11 y2 y3 lb2 JI JZ0 JZ1 JZ2
  go_wp2_with fail
  go_loopw [2, 20] (fun v s wr => ∃ k : Nat, k ≤ N ∧ s = .int .i64 k ∧ Hid (wr.ownsRow w.heap.size 3 1 v (t.flatI k).length ((t.flatI k).map (Value.int .i64))) ∧ Hid (Below w.heap.size w wr) ∧ Hid (wr.ownsRow w11.heap.size 22 1 (.slice a18 N c18) N t.rows)) (fun _ s _ => N - (intOf s).toNat)
  case atStart => exact ⟨0, Nat.zero_le _, rfl, Q0, B0, P1⟩
  case round =>
    obtain ⟨k, hk, rfl, RO, BW, PR⟩ := hrel
    clear Q0 B0 P1
    by_cases hlt : k < N
    · have hi : (k : Int) < (t.H.n : Int) + (t.R.n : Int) := by have := HN.out; omega
      obtain ⟨g, cap, cur, hv, _⟩ := PR.out.2.resolve_left (by rintro ⟨_, h⟩; omega)
      cases hv
      have xg := row_cells PR.out k _ (t.rows_get k (by rw [HN.out]; exact hlt))
      have lg := World.block_lt_of_cell? wr _ xg
      dsimp only at lg
      have NI := Lib.hid (ints_news (Tab.rows_ints (HI.out.below BW.out) k (by rw [HN.out]; exact hlt)))
      have ln := Tab.flat_len HSM.out k (by rw [HN.out]; exact hk)
      have lr := HSM.out.row k (by rw [HN.out]; exact hlt)
      obtain ⟨ao, co, hvv⟩ := own_form RO.out
      subst hvv
      go_wp2_with (at_builtin; refine wpList_append_src (by rfl) _ _ 22 rfl w.heap.size 3 i0 (.int .i64 0) 1 8 Try.underlying22 II.out IZ0.out IZ1.out IZ2.out rfl (by decide) _ (t.flatI k).length ((t.flatI k).map (Value.int .i64)) rfl RO.out (t.rA k) (t.rN k) (t.rC k) (intsV (t.rN k) (t.rM k)) rfl (intsV_len _ _) NI.out (intsV_one _ _) (by unfold maxLen; omega) (by omega) BW.out.size ?_; intro v9 w9 own9 grow9)
      have RO9 : Hid (w9.ownsRow w.heap.size 3 1 v9 (t.flatI (k + 1)).length ((t.flatI (k + 1)).map (Value.int .i64))) := Lib.hid (by
        rw [Tab.flat_succ, List.length_append, List.length_map, List.length_range, List.map_append, ← intsV_map]; exact own9)
      have BW9 := Lib.hid (BW.out.grown grow9 BW.out.size (fun b hb => (RO.out.lt b hb).1))
      have PR9 := Lib.hid (PR.out.kept grow9 (own_ne PR.out RO.out (by decide)))
      clear own9 grow9 NI
      go_wp2_with fail
      go_roundw
      case rel => exact ⟨k + 1, by omega, by go_num, RO9, BW9, PR9⟩
      case measure => simp [intOf]; omega
    · obtain rfl : N = k := by omega
      have hi : ¬ (N : Int) < (t.H.n : Int) + (t.R.n : Int) := by have := HN.out; omega
      go_wp2_with fail
      go_ret
      exact ⟨_, rfl, by rw [HN.out]; exact flat_of_own RO.out, BW.out⟩
end Go.Proofs.Ytohcopdfdmjhnaa.L1
