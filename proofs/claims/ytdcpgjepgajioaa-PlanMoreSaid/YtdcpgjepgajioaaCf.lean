/- Contract of the reference's plans (a call of itself). No conditions beyond each theorem's own. -/
import Derived.Test.YtdcpgjepgajioaaCc
import Derived.Test.YtdcpgjepgajioaaBp
import Derived.Test.YtdcpgjepgajioaaAo
set_option linter.unusedVariables false
set_option linter.unusedSimpArgs false
set_option linter.unusedSectionVars false
set_option linter.constructorNameAsVariable false
namespace Go.Proofs.Ytdcpgjepgajioaa
open Go.RowKit

attribute [local go_sem] gw_cell gw_frozen gw_size
attribute [local go_sem] keepW_cell

/-- lots as numbers -/
def lotF (l : List Nat) (t : Nat) : Int := ((l.getD t 0 : Nat) : Int)
/-- all lots that go on from some, in lexicographic order -/
def planL (M : Nat → Int) : Nat → List Nat → List (List Nat)
  | 0, now => [now]
  | h + 1, now => (List.range (M now.length + 1).toNat).flatMap fun n => planL M h (now ++ [n])
def planN (M : Nat → Int) (h : Nat) (now : List Nat) (n : Nat) : List (List Nat) := (List.range n).flatMap fun j => planL M h (now ++ [j])
theorem planN_succ (M : Nat → Int) (h : Nat) (now : List Nat) (n : Nat) : planN M h now (n + 1) = planN M h now n ++ planL M h (now ++ [n]) := by simp [planN, List.range_succ]
theorem planN_le (M : Nat → Int) (h : Nat) (now : List Nat) (n : Nat) : ∀ k, (planN M h now n).length ≤ (planN M h now (n + k)).length
  | 0 => Nat.le_refl _
  | k + 1 => by
    rw [show n + (k + 1) = (n + k) + 1 by omega, planN_succ, List.length_append]
    have := planN_le M h now n k
    omega
def obA (a : Option Addr) : Option Nat := a.map (·.block)
theorem own_a (a : Option Addr) (n c : Nat) : (Value.slice a n c).ownBlock = obA a := by cases a <;> rfl
/-- a row that lies apart from a block -/
def RowAt (V : World) (ob : Option Nat) (a : Option Addr) (n : Nat) (L : Nat → Int) : Prop := n = 0 ∨ ∃ b off, a = some ⟨b, off, none⟩ ∧ b < V.heap.size ∧ some b ≠ ob ∧ ∀ i, i < n → V.cell? ⟨b, off + i, none⟩ = some (.int .i64 (L i))
theorem RowAt.ints {V : World} {ob : Option Nat} {a : Option Addr} {n : Nat} {L : Nat → Int} (h : RowAt V ob a n L) : IntsAt V a n L := by
  rcases h with h | ⟨b, off, e, hb, _, hc⟩
  · exact .inl h
  · exact .inr ⟨b, off, e, hb, hc⟩
theorem RowAt.grown {V V' : World} {ob : Option Nat} {a : Option Addr} {n : Nat} {L : Nat → Int} (h : RowAt V ob a n L) (g : V.grownBy V' ob) : RowAt V' ob a n L := by
  rcases h with h | ⟨b, off, e, hb, hn, hc⟩
  · exact .inl h
  · exact .inr ⟨b, off, e, Nat.lt_of_lt_of_le hb g.size, hn, fun i hi => (World.cell?_of_block (a := ⟨b, off + i, none⟩) (g.block b hb hn)).trans (hc i hi)⟩
theorem RowAt.below {V V' : World} {ob : Option Nat} {a : Option Addr} {n : Nat} {L : Nat → Int} (h : RowAt V ob a n L) (g : Below V.heap.size V V') : RowAt V' ob a n L := h.grown (grownBy_of_below g _)
theorem RowAt.rekey {V : World} {ob ob' : Option Nat} {a : Option Addr} {n : Nat} {L : Nat → Int} (h : RowAt V ob a n L) (hk : ob' = ob ∨ ∀ b, ob' = some b → V.heap.size ≤ b) : RowAt V ob' a n L := by
  rcases hk with rfl | hk
  · exact h
  · rcases h with h | ⟨b, off, e, hb, hn, hc⟩
    · exact .inl h
    · exact .inr ⟨b, off, e, hb, fun e2 => by have := hk b e2.symm; omega, hc⟩
def plV (rA : Nat → Option Addr) (rC : Nat → Nat) (P : List (List Nat)) : List Value := (List.range P.length).map fun t => .slice (rA t) (P.getD t []).length (rC t)
/-- a list of lots that the caller may grow -/
def PList (V : World) (base : Nat) (a : Option Addr) (c : Nat) (P : List (List Nat)) : Prop :=
  ∃ (rA : Nat → Option Addr) (rC : Nat → Nat), V.ownsRow base 22 1 (.slice a P.length c) P.length (plV rA rC P) ∧ ∀ t, t < P.length → RowAt V (obA a) (rA t) (P.getD t []).length (lotF (P.getD t []))
theorem PList.nil (V : World) (base : Nat) : PList V base none 0 [] := ⟨fun _ => none, fun _ => 0, World.ownsRow_nil _ _ _ _, fun t ht => by cases ht⟩
theorem PList.below {V V' : World} {base c : Nat} {a : Option Addr} {P : List (List Nat)} (h : PList V base a c P) (hb : Below V.heap.size V V') : PList V' base a c P := by
  obtain ⟨rA, rC, h1, h2⟩ := h
  exact ⟨rA, rC, own_below h1 hb, fun t ht => (h2 t ht).below hb⟩
theorem PList.lt {V : World} {base c : Nat} {a : Option Addr} {P : List (List Nat)} (h : PList V base a c P) : ∀ b, obA a = some b → base ≤ b ∧ b < V.heap.size := fun b hb => by
  obtain ⟨rA, rC, h1, _⟩ := h
  exact h1.lt b (by rw [own_a]; exact hb)
theorem PList.push {V V2 : World} {base cB : Nat} {a aB : Option Addr} {P : List (List Nat)} {now : List Nat} {v9 : Value} {rA : Nat → Option Addr} {rC : Nat → Nat} (h3 : ∀ t, t < P.length → RowAt V (obA a) (rA t) (P.getD t []).length (lotF (P.getD t [])))
    (hr : RowAt V (obA a) aB now.length (lotF now)) (hg : V.grownBy V2 (obA a)) (h9 : V2.ownsRow base 22 1 v9 (P.length + 1) (plV rA rC P ++ [.slice aB now.length cB])) (hat : v9.ownBlock = obA a ∨ ∀ b, v9.ownBlock = some b → V.heap.size ≤ b) :
    ∃ a9 c9, v9 = .slice a9 (P ++ [now]).length c9 ∧ PList V2 base a9 c9 (P ++ [now]) ∧ (obA a9 = obA a ∨ ∀ b, obA a9 = some b → V.heap.size ≤ b) := by
  obtain ⟨a9, c9, rfl⟩ := own_form h9
  rw [own_a] at hat
  refine ⟨a9, c9, by simp, ⟨fun t => if t < P.length then rA t else aB, fun t => if t < P.length then rC t else cB, ?_, ?_⟩, hat⟩
  · have e : plV (fun t => if t < P.length then rA t else aB) (fun t => if t < P.length then rC t else cB) (P ++ [now]) = plV rA rC P ++ [.slice aB now.length cB] := by
      unfold plV
      rw [List.length_append, List.length_singleton, List.range_succ, List.map_append]
      congr 1
      · exact List.map_congr_left (fun t ht => by have := List.mem_range.1 ht; simp [this, List.getD_eq_getElem?_getD, List.getElem?_append_left])
      · simp
    rw [e]
    simpa using h9
  · intro t ht
    by_cases htj : t < P.length
    · simp only [htj, if_true]
      rw [show (P ++ [now]).getD t [] = P.getD t [] by simp [List.getD_eq_getElem?_getD, List.getElem?_append_left htj]]
      exact ((h3 t htj).rekey hat |>.elim .inl fun ⟨b, off, e, hb, hn, hc⟩ => by
        rcases h3 t htj with h | ⟨b', off', e', hb', hn', hc'⟩
        · exact .inl h
        · rw [e] at e'; cases e'
          exact .inr ⟨b, off, e, Nat.lt_of_lt_of_le hb hg.size, hn, fun i hi => (World.cell?_of_block (a := ⟨b, off + i, none⟩) (hg.block b hb hn')).trans (hc i hi)⟩)
    · obtain rfl : t = P.length := by simp at ht; omega
      simp only [Nat.lt_irrefl, if_false]
      rw [show (P ++ [now]).getD P.length [] = now by simp [List.getD_eq_getElem?_getD]]
      rcases hr with h | ⟨b, off, e, hb, hn, hc⟩
      · exact .inl h
      · refine .inr ⟨b, off, e, Nat.lt_of_lt_of_le hb hg.size, fun e2 => ?_, fun i hi => (World.cell?_of_block (a := ⟨b, off + i, none⟩) (hg.block b hb hn)).trans (hc i hi)⟩
        rcases hat with h | h
        · rw [h] at e2; exact hn e2
        · have := h b e2.symm; omega
theorem RowAt.move {V V' : World} {ob ob' : Option Nat} {a : Option Addr} {n : Nat} {L : Nat → Int} (h : RowAt V ob a n L) (g : V.grownBy V' ob) (hk : ob' = ob ∨ ∀ b, ob' = some b → V.heap.size ≤ b) : RowAt V' ob' a n L := by
  rcases h with h | ⟨b, off, e, hb, hn, hc⟩
  · exact .inl h
  · refine .inr ⟨b, off, e, Nat.lt_of_lt_of_le hb g.size, fun e2 => ?_, fun i hi => (World.cell?_of_block (a := ⟨b, off + i, none⟩) (g.block b hb hn)).trans (hc i hi)⟩
    rcases hk with h | h
    · rw [h] at e2; exact hn e2
    · have := h b e2.symm; omega
theorem natsV_news {V : World} {ob : Option Nat} {a : Option Addr} {l : List Nat} (h : RowAt V ob a l.length (lotF l)) : l.length = 0 ∨ ∃ ad, a = some ad ∧ ∀ j u, (natsV l)[j]? = some u → V.cell? (ad.add j) = some u := by
  rcases h with h | ⟨b, off, e, hb, hn, hc⟩
  · exact .inl h
  · refine .inr ⟨_, e, fun j u hj => ?_⟩
    have hjl : j < l.length := by have := (List.getElem?_eq_some_iff.1 hj).1; simpa [natsV] using this
    have hu : u = .int .i64 (lotF l j) := by
      simp only [natsV, List.getElem?_map, List.getElem?_eq_getElem hjl, Option.map_some, Option.some.injEq] at hj
      rw [← hj]; simp [lotF, List.getD_eq_getElem?_getD, hjl]
    rw [addr_add, hu]
    exact hc j hjl
theorem row_of_own {V : World} {base : Nat} {a : Option Addr} {c : Nat} {l : List Nat} {ob : Option Nat} (h : V.ownsRow base 3 1 (.slice a l.length c) l.length (natsV l)) (ho : ∀ b, ob = some b → b < base) : RowAt V ob a l.length (lotF l) := by
  rcases h.2 with ⟨_, h0⟩ | ⟨g, cap, cur, hv, h1, h2, _⟩
  · exact .inl h0
  · simp only [Value.slice.injEq] at hv
    obtain ⟨rfl, _, rfl⟩ := hv
    refine .inr ⟨g, 0, rfl, (Array.getElem?_eq_some_iff.1 h2).1, fun e => by have := ho g e.symm; omega, fun i hi => ?_⟩
    have := h.cells (g := g) rfl i (.int .i64 (lotF l i)) (by simp [natsV, lotF, List.getD_eq_getElem?_getD, hi])
    rw [addr_add] at this
    exact this
theorem cell_add {w w' : World} {b i : Nat} (h : w'.heap[b]? = w.heap[b]?) : w'.cell? ((⟨b, 0, none⟩ : Addr).add i) = w.cell? ((⟨b, 0, none⟩ : Addr).add i) := by
  rw [addr_add]; exact World.cell?_of_block (a := ⟨b, 0 + i, none⟩) h
/-- what plans does -/
def PlansAt (w0 : World) (y : Lyg) (h : Nat) : Prop := ∀ (now : List Nat) (aB : Option Addr) (cB : Nat) (a : Option Addr) (c : Nat) (P : List (List Nat)) (w : World), now.length + h = y.nM → PList w w0.heap.size a c P → RowAt w (obA a) aB now.length (lotF now) → Below w0.heap.size w0 w →
  P.length + (planL y.M h now).length ≤ 5000000000 →
  Calls Try.prog 44 #[y.val, .slice aB now.length cB, .slice a P.length c] w fun e w' => ∃ a' c', e = .returned (.slice a' (P ++ planL y.M h now).length c') ∧ PList w' w0.heap.size a' c' (P ++ planL y.M h now) ∧ w.grownBy w' (obA a) ∧ (obA a' = obA a ∨ ∀ b, obA a' = some b → w.heap.size ≤ b)

set_option maxRecDepth 100000 in
set_option maxHeartbeats 4000000 in
theorem plans_zero (w0 : World) (y : Lyg) (hM : y.nM ≤ 10) : PlansAt w0 y 0 := by
  intro now aB cB a c P w hn hP hR hw hlen
  have hlen2 : P.length + 1 ≤ 5000000000 := hlen
  unfold Lyg.val
  obtain ⟨W1, hW1⟩ : ∃ W1, w.alloc (.cells #[.slice y.aR y.nR y.cR, .slice y.aM y.nM y.cM, .int .i64 y.lot, .int .i64 y.room] 29) = W1 := ⟨_, rfl⟩
  have hBc : Below w.heap.size w W1 := by rw [← hW1]; exact below_alloc _ _
  have zc0 : W1.heap[w.heap.size]? = some (.cells #[.slice y.aR y.nR y.cR, .slice y.aM y.nM y.cM, .int .i64 y.lot, .int .i64 y.room] 29 (0, 0)) := by rw [← hW1]; exact alloc_at rfl
  have c00 : W1.cell? ⟨w.heap.size, 0, none⟩ = some (.slice y.aR y.nR y.cR) := cell_of_block zc0 0 (by simp)
  have c01 : W1.cell? ⟨w.heap.size, 1, none⟩ = some (.slice y.aM y.nM y.cM) := cell_of_block zc0 1 (by simp)
  have c02 : W1.cell? ⟨w.heap.size, 2, none⟩ = some (.int .i64 y.lot) := cell_of_block zc0 2 (by simp)
  have c03 : W1.cell? ⟨w.heap.size, 3, none⟩ = some (.int .i64 y.room) := cell_of_block zc0 3 (by simp)
  have lc0 := (Array.getElem?_eq_some_iff.1 zc0).1
  have Zc0 := Lib.hid zc0
  clear zc0
  have HBc := Lib.hid hBc; clear hBc
  have HWc := Lib.hid hW1; clear hW1
  have hnl : now.length = y.nM := by omega
  have d0 : ((now.length : Int) == (y.nM : Int)) = true := by simp; omega
  have HNL := Lib.hid hnl; clear hnl hn
  have HP1 := hP.below HBc.out
  obtain ⟨rA, rC, ho1, ho3⟩ := HP1.below (below_alloc W1 (.cells #[Value.slice aB now.length cB] 22))
  have HO1 := Lib.hid ho1; have HO3 := Lib.hid ho3
  have HR1 := Lib.hid (hR.below HBc.out)
  clear ho1 ho3 HP1 hR hP
  obtain ⟨j0, jh, jy0, jy1, jy2⟩ := info_parts infoLI
  have JI := Lib.hid jh; have Y0 := Lib.hid jy0; have Y1 := Lib.hid jy1; have Y2 := Lib.hid jy2
  clear jh jy0 jy1 jy2
  have HN4 := Lib.hid (news_lit W1 [Value.slice aB now.length cB] 22)
  have szw := HBc.out.size
  have sz0 := hw.size
  clear c02 c03
  obtain ⟨nl, hnl⟩ : ∃ nl, now.length = nl := ⟨_, rfl⟩
  rw [hnl] at d0 HO1 HO3 HR1 HN4 ⊢
  have HNN := Lib.hid hnl; clear hnl HNL
  go_enter Try.func44, Try.ntmps44
  go_upto_region 1 with (fail)
  rw [HWc.out]
  go_upto_region 3 with (at_builtin; refine wpList_append_own_at _ rfl _ _ 32 rfl w0.heap.size 22 j0 (.slice none 0 0) 1 24 Try.underlying32 JI.out Y0.out Y1.out Y2.out rfl (by decide) _ P.length (plV rA rC P) rfl HO1.out ⟨W1.heap.size, 0, none⟩ 1 1 [.slice aB nl cB] rfl rfl HN4.out (by simp [Value.oneCell']) (by unfold maxLen; omega) (by omega) (by simp; omega) ?_; intro v9 w9 hown9 hgrow9 _ hat9)
  refine bodyPost_ret (v := v9) (by simp [results, Try.results44, go_sem]) rfl ?_
  have g9 : (W1.alloc (.cells #[Value.slice aB nl cB] 22)).grownBy w9 (obA a) := by rw [← own_a a P.length c]; exact hgrow9
  have gA : w.grownBy (W1.alloc (.cells #[Value.slice aB nl cB] 22)) (obA a) := grownBy_of_below (HBc.out.trans ((below_alloc W1 _).mono szw)) _
  have hat : v9.ownBlock = obA a ∨ ∀ b, v9.ownBlock = some b → (W1.alloc (.cells #[Value.slice aB nl cB] 22)).heap.size ≤ b := by rcases hat9 with e | e; exact .inl (e.trans (own_a a P.length c)); exact .inr (fun b hb => by rw [e] at hb; cases hb; exact Nat.le_refl _)
  have hnn := HNN.out
  subst hnn
  obtain ⟨a9, c9, rfl, h9, h10⟩ := PList.push HO3.out (HR1.out.below (below_alloc W1 _)) g9 hown9 hat
  refine ⟨a9, c9, rfl, h9, grownBy_trans gA g9, ?_⟩
  rcases h10 with e | e
  · exact .inl e
  · exact .inr (fun b hb => by have := e b hb; simp at this; omega)

set_option maxRecDepth 100000 in
set_option maxHeartbeats 16000000 in
theorem plans_succ (w0 : World) (y : Lyg) (hY : y.In w0) (hM : y.nM ≤ 10) (hR8 : ∀ i, i < y.nM → 0 ≤ y.M i ∧ y.M i ≤ 8) (h : Nat) (IH : PlansAt w0 y h) : PlansAt w0 y (h + 1) := by
  intro now aB cB a c P w hn hP hR hw hlen
  have hlt := hP.lt
  rcases hY.iM with h0 | ⟨bM, oM, eM, lM, hMc⟩
  · omega
  have rM := hR8 now.length (by omega)
  have yM := hMc now.length (by omega)
  have HI := Lib.hid IH; clear IH
  have HY := Lib.hid hY
  unfold PlansAt at HI
  unfold Lyg.val at HI ⊢
  obtain ⟨W1, hW1⟩ : ∃ W1, w.alloc (.cells #[.slice y.aR y.nR y.cR, .slice y.aM y.nM y.cM, .int .i64 y.lot, .int .i64 y.room] 29) = W1 := ⟨_, rfl⟩
  have hBc : Below w.heap.size w W1 := by rw [← hW1]; exact below_alloc _ _
  have zc0 : W1.heap[w.heap.size]? = some (.cells #[.slice y.aR y.nR y.cR, .slice y.aM y.nM y.cM, .int .i64 y.lot, .int .i64 y.room] 29 (0, 0)) := by rw [← hW1]; exact alloc_at rfl
  have c00 : W1.cell? ⟨w.heap.size, 0, none⟩ = some (.slice y.aR y.nR y.cR) := cell_of_block zc0 0 (by simp)
  have c01 : W1.cell? ⟨w.heap.size, 1, none⟩ = some (.slice y.aM y.nM y.cM) := cell_of_block zc0 1 (by simp)
  have c02 : W1.cell? ⟨w.heap.size, 2, none⟩ = some (.int .i64 y.lot) := cell_of_block zc0 2 (by simp)
  have c03 : W1.cell? ⟨w.heap.size, 3, none⟩ = some (.int .i64 y.room) := cell_of_block zc0 3 (by simp)
  have lc0 := (Array.getElem?_eq_some_iff.1 zc0).1
  have Zc0 := Lib.hid zc0
  clear zc0
  have HBc := Lib.hid hBc; clear hBc
  have HWc := Lib.hid hW1; clear hW1
  have d0 : ((now.length : Int) == (y.nM : Int)) = false := by simp; omega
  have hni : (now.length : Int) < (y.nM : Int) := by omega
  have HLT := Lib.hid hlt; clear hlt
  have HN := Lib.hid hn; clear hn
  have szw := HBc.out.size
  have sz0 := hw.size
  have HLEN := Lib.hid hlen; clear hlen
  obtain ⟨m, hm⟩ : ∃ m : Nat, y.M now.length = (m : Int) := ⟨(y.M now.length).toNat, by omega⟩
  have hm8 : m ≤ 8 := by omega
  have HMM := Lib.hid hm
  rw [hm] at yM
  clear hm rM
  have HPL := Lib.hid (show planL y.M (h + 1) now = planN y.M h now (m + 1) by show planN y.M h now (y.M now.length + 1).toNat = _; rw [HMM.out]; rfl)
  have HP1 := Lib.hid (hP.below HBc.out)
  have HR1 := Lib.hid (hR.below HBc.out)
  have HB0 := Lib.hid (hw.trans (HBc.out.mono sz0))
  clear hP hR hY
  rw [HPL.out] at HLEN ⊢
  obtain ⟨nl, hnl⟩ : ∃ nl, now.length = nl := ⟨_, rfl⟩
  rw [hnl] at yM d0 hni ⊢
  have HNN := Lib.hid hnl; clear hnl
  have nl10 : nl < y.nM := by omega
  have EMH := Lib.hid eM
  clear hMc eM
  obtain ⟨j0, jh, jy0, jy1, jy2⟩ := info_parts infoInt
  have JI := Lib.hid jh; have Y0 := Lib.hid jy0; have Y1 := Lib.hid jy1; have Y2 := Lib.hid jy2
  clear jh jy0 jy1 jy2
  obtain ⟨l0, hl0⟩ : ∃ l, P.length = l := ⟨_, rfl⟩
  have HP2 := Lib.hid hl0
  rw [hl0]
  clear hl0
  go_enter Try.func44, Try.ntmps44
  go_upto_region 1 with (fail)
  rw [HWc.out]
  go_wp2_with fail
  clear d0
  go_loopw [2, 7] (fun s2 s7 wr => ∃ (n : Nat) (ax : Option Addr) (cx l : Nat), n ≤ m + 1 ∧ s7 = .int .i64 (n : Int) ∧ s2 = .slice ax l cx ∧ Hid (l = (P ++ planN y.M h now n).length) ∧ Hid (PList wr w0.heap.size ax cx (P ++ planN y.M h now n)) ∧ Hid (W1.grownBy wr (obA a)) ∧ Hid (obA ax = obA a ∨ ∀ b, obA ax = some b → W1.heap.size ≤ b)) (fun _ s7 _ => m + 1 - (intOf s7).toNat)
  case atStart => exact ⟨0, a, c, l0, Nat.zero_le _, rfl, rfl, Lib.hid (by rw [show planN y.M h now 0 = [] from rfl, List.append_nil]; exact HP2.out.symm), Lib.hid (by rw [show planN y.M h now 0 = [] from rfl, List.append_nil]; exact HP1.out), Lib.hid (grownBy_of_below (Below.refl _ _) _), Lib.hid (.inl rfl)⟩
  case round =>
    obtain ⟨n, ax, cx, l, hnm, rfl, rfl, HL, HPX, HG, HK⟩ := hrel
    have nz : some w.heap.size ≠ obA a := fun e => by have := (HLT.out _ e.symm).2; omega
    have HZ := Lib.hid ((HG.out.block _ lc0 nz).trans Zc0.out)
    have HB2 := Lib.hid (HB0.out.grown HG.out (by omega) (fun b e => (HLT.out b e).1))
    have x00 : wr.cell? ⟨w.heap.size, 0, none⟩ = some (.slice y.aR y.nR y.cR) := cell_of_block HZ.out 0 (by simp)
    have x01 : wr.cell? ⟨w.heap.size, 1, none⟩ = some (.slice y.aM y.nM y.cM) := cell_of_block HZ.out 1 (by simp)
    have x02 : wr.cell? ⟨w.heap.size, 2, none⟩ = some (.int .i64 y.lot) := cell_of_block HZ.out 2 (by simp)
    have x03 : wr.cell? ⟨w.heap.size, 3, none⟩ = some (.int .i64 y.room) := cell_of_block HZ.out 3 (by simp)
    have lz := (Array.getElem?_eq_some_iff.1 HZ.out).1
    have yM2 := (HB2.out.cell (p := ⟨bM, oM + nl, none⟩) lM).trans yM
    have lM2 : bM < wr.heap.size := Nat.lt_of_lt_of_le lM HB2.out.size
    have HX1 := Lib.hid x01
    clear x01
    have x01 := HX1.out
    rw [EMH.out] at x01
    by_cases hle : n ≤ m
    · have hle2 : (n : Int) ≤ (m : Int) := by omega
      have HLE := Lib.hid hle; clear hle
      haveI hne : Nonempty (KeepW wr [w.heap.size]) := ⟨⟨wr, fun _ _ => rfl⟩⟩
      go_wp2_with fail
      refine wp_region_plan (fun w' => ∃ x : KeepW wr [w.heap.size], w' = x.w) (.fork [0, 2, 4, 7] 1 5 (.fork [] 3 5 (.step [] 5 (.step [] 6 (.step [] 8 (.last [9])))) (.step [] 3 (.step [] 6 (.step [] 8 (.last [9]))))) (.step [] 1 (.step [] 3 (.step [] 6 (.step [] 8 (.last [9])))))) (by kernel_rfl) (by kernel_rfl) ?_
      rintro _ ⟨x1, rfl⟩
      refine ⟨keep1 (gw_block wr x1 _ lz), ?_⟩
      refine wpPlan_fork ?_
      simp only [pickL, List.getElem?_cons_zero, List.getElem?_cons_succ]
      repeat (go_big_quiet_step (fail))
      refine wpQuiet_nil ?_
      obtain ⟨V0, hV0⟩ : ∃ V0, gw wr x1 = V0 := ⟨_, rfl⟩
      have HB3 := Lib.hid (show Below wr.heap.size wr V0 by rw [← hV0]; exact below_gw wr x1)
      rw [hV0]
      have RB := Lib.hid (show RowAt wr (obA ax) aB now.length (lotF now) from HR1.out.move HG.out HK.out)
      have OBL := Lib.hid (show ∀ b, obA ax = some b → b < wr.heap.size from fun b hb => (HPX.out.lt b hb).2)
      have EL := Lib.hid (show (now ++ [n]).length = nl + 1 by rw [List.length_append, HNN.out]; rfl)
      have EP := Lib.hid (show (P ++ planN y.M h now n) ++ planL y.M h (now ++ [n]) = P ++ planN y.M h now (n + 1) by rw [planN_succ, List.append_assoc])
      have ELN := Lib.hid (show (P ++ planN y.M h now n).length + (planL y.M h (now ++ [n])).length ≤ 5000000000 by have e1 := planN_le y.M h now (n + 1) (m - n); rw [show n + 1 + (m - n) = m + 1 by have := HLE.out; omega] at e1; have e2 := HLEN.out; have e3 := congrArg List.length (planN_succ y.M h now n); rw [List.length_append] at e3 ⊢; omega)
      have EN := Lib.hid (show (now ++ [n]).length + h = y.nM by rw [EL.out]; have := HN.out; have := HNN.out; omega)
      have NVL := Lib.hid (show (natsV now).length = nl * 1 by rw [natsV_len, HNN.out])
      obtain ⟨l8, hl8⟩ : ∃ l8, (P ++ planN y.M h now (n + 1)).length = l8 := ⟨_, rfl⟩
      have HL8 := Lib.hid hl8
      clear hl8 hV0 x00 x01 x02 x03 yM2
      have HBW := Lib.hid (show w0.heap.size ≤ wr.heap.size from HB2.out.size)
      refine ⟨?_, ?_⟩
      · go_wp2_with fail
        obtain ⟨V4, hV4⟩ : ∃ V, (V0).alloc (.cells #[] 3) = V := ⟨_, rfl⟩
        have HB4 := Lib.hid (show Below wr.heap.size wr V4 by rw [← hV4]; exact HB3.out.alloc HB3.out.size _)
        have OW := Lib.hid (show V4.ownsRow wr.heap.size 3 1 (.slice (some ⟨(V0).heap.size, 0, none⟩) 0 0) 0 [] by rw [← hV4]; exact ⟨rfl, .inr ⟨_, 0, #[], rfl, HB3.out.size, alloc_at rfl, Nat.le_refl _, Nat.zero_le _, rfl, rfl⟩⟩)
        rw [hV4]
        clear hV4
        refine contQ_now ⟨keep1 (HB4.out.block _ lz), ?_⟩
        refine wpPlan_fork ?_
        simp only [pickL, List.getElem?_cons_zero, List.getElem?_cons_succ]
        refine wpQuiet_nil ?_
        refine ⟨?_, ?_⟩
        · have NW := natsV_news (RB.out.below HB4.out)
          rw [HNN.out] at NW
          have HNW := Lib.hid NW; clear NW
          go_wp2_with (at_builtin; refine wpList_append_src (by rfl) _ _ 22 rfl wr.heap.size 3 j0 (.int .i64 0) 1 8 Try.underlying22 JI.out Y0.out Y1.out Y2.out rfl (by decide) _ 0 [] rfl OW.out aB nl cB (natsV now) rfl NVL.out HNW.out (natsV_one now) (by unfold maxLen; omega) (by omega) HB4.out.size ?_; intro v3 V5 hown3 hgrow3)
          rw [Nat.zero_add, List.nil_append] at hown3
          have g3 : (V4).grownBy V5 (Value.slice (some ⟨(V0).heap.size, 0, none⟩) 0 0).ownBlock := hgrow3
          have HB5 := Lib.hid (HB4.out.grown g3 HB4.out.size (fun b e => (OW.out.lt b e).1))
          obtain ⟨a3, c3, rfl⟩ := own_form hown3
          have RW := Lib.hid hown3
          clear hown3 hgrow3 OW HNW
          refine contQ_now ⟨keep1 (HB5.out.block _ lz), ?_⟩
          refine wpPlan_step ?_
          simp only [pickL, List.getElem?_cons_zero, List.getElem?_cons_succ]
          refine wpQuiet_nil ?_
          go_wp2_with fail
          obtain ⟨V6, hV6⟩ : ∃ V, (V5).alloc (.cells #[.int .i64 (n : Int)] 3) = V := ⟨_, rfl⟩
          have HB6 := Lib.hid (show Below wr.heap.size wr V6 by rw [← hV6]; exact HB5.out.alloc HB5.out.size _)
          have NN := Lib.hid (show ∀ (i : Nat) (u : Value), [Value.int .i64 (n : Int)][i]? = some u → V6.cell? ((⟨(V5).heap.size, 0, none⟩ : Addr).add i) = some u by rw [← hV6]; exact news_lit _ _ _)
          have RW := Lib.hid (own_below RW.out (show Below (V5).heap.size (V5) V6 by rw [← hV6]; exact below_alloc _ _))
          rw [hV6]
          clear hV6
          refine contQ_now ⟨keep1 (HB6.out.block _ lz), ?_⟩
          refine wpPlan_step ?_
          simp only [pickL, List.getElem?_cons_zero, List.getElem?_cons_succ]
          refine wpQuiet_nil ?_
          go_wp2_with (at_builtin; refine wpList_append_own _ rfl _ _ 22 rfl wr.heap.size 3 j0 (.int .i64 0) 1 8 Try.underlying22 JI.out Y0.out Y1.out Y2.out rfl (by decide) _ nl (natsV now) rfl RW.out ⟨(V5).heap.size, 0, none⟩ 1 1 [.int .i64 (n : Int)] rfl rfl NN.out (by simp [Value.oneCell']) (by unfold maxLen; omega) (by omega) HB6.out.size ?_; intro v6 V7 hown6 hgrow6 _)
          have g6 : (V6).grownBy V7 (Value.slice a3 nl c3).ownBlock := hgrow6
          have HB7 := Lib.hid (HB6.out.grown g6 HB6.out.size (fun b e => (RW.out.lt b e).1))
          rw [natsV_push, ← EL.out] at hown6
          obtain ⟨a6, c6, rfl⟩ := own_form hown6
          have R6 := Lib.hid (row_of_own hown6 OBL.out)
          rw [EL.out]
          clear hown6 hgrow6 RW NN g6
          refine contQ_now ⟨keep1 (HB7.out.block _ lz), ?_⟩
          refine wpPlan_step ?_
          simp only [pickL, List.getElem?_cons_zero, List.getElem?_cons_succ]
          refine wpQuiet_nil ?_
          have CALL := HI.out (now ++ [n]) a6 c6 ax cx (P ++ planN y.M h now n) V7 EN.out (HPX.out.below HB7.out) R6.out (HB2.out.trans (HB7.out.mono HBW.out)) ELN.out
          rw [EL.out, ← HL.out, EP.out, HL8.out, EMH.out] at CALL
          have HCALL := Lib.hid CALL; clear CALL
          go_wp2_with fail
          rename_i KK hKK
          (with_reducible refine HCALL.out.mono ?_)
          rintro e w8 ⟨a8, c8, rfl, hP8, hg8, hk8⟩
          have gA : W1.grownBy V7 (obA a) := grownBy_trans HG.out (grownBy_of_below HB7.out _)
          have gB : W1.grownBy w8 (obA a) := by rcases HK.out with e | e; exact grownBy_trans gA (by rw [← e]; exact hg8); exact grownBy_fresh gA hg8 e
          have HK8 := Lib.hid (show obA a8 = obA a ∨ ∀ b, obA a8 = some b → W1.heap.size ≤ b by rcases hk8 with e | e; rw [e]; exact HK.out; exact .inr (fun b hb => by have := e b hb; have := gA.size; omega))
          have HG8 := Lib.hid gB
          have HP8 := Lib.hid hP8
          clear gA gB hk8 hg8 hP8
          refine hKK _ _ (contQ_nil ⟨keep1 ((HG8.out.block _ lc0 nz).trans (HG.out.block _ lc0 nz).symm), ?_⟩)
          clear hKK KK
          refine wpPlan_last ?_
          simp only [pickL, List.getElem?_cons_zero, List.getElem?_cons_succ]
          repeat (go_big_quiet_step (fail))
          refine wpQuiet_nil ?_
          refine contN_nil ?_
          go_wp2_with fail
          go_roundw
          case rel => exact ⟨n + 1, a8, c8, l8, by have := HLE.out; omega, by go_num, rfl, Lib.hid HL8.out.symm, HP8, HG8, HK8⟩
          case measure => have := HLE.out; simp only [intOf]; omega
        · have SZ := Lib.hid (show (V0).heap.size < V4.heap.size from (OW.out.lt (V0).heap.size rfl).2)
          go_wp2_with fail
          obtain ⟨V8, hV8⟩ : ∃ V, (V4).alloc (.cells #[.int .i64 (n : Int)] 3) = V := ⟨_, rfl⟩
          have HB8 := Lib.hid (show Below wr.heap.size wr V8 by rw [← hV8]; exact HB4.out.alloc HB4.out.size _)
          have NN := Lib.hid (show ∀ (i : Nat) (u : Value), [Value.int .i64 (n : Int)][i]? = some u → V8.cell? ((⟨(V4).heap.size, 0, none⟩ : Addr).add i) = some u by rw [← hV8]; exact news_lit _ _ _)
          have OW := Lib.hid (own_below OW.out (show Below (V4).heap.size (V4) V8 by rw [← hV8]; exact below_alloc _ _))
          rw [hV8]
          clear hV8
          have LB5 := Lib.hid (show (V4).heap.size < V8.heap.size by have e := NN.out 0 _ rfl; rw [addr_add] at e; exact World.block_lt_of_cell? _ _ e)
          have NE5 := Lib.hid (show some (V4).heap.size ≠ (Value.slice (some ⟨(V0).heap.size, 0, none⟩) 0 0).ownBlock by intro e; have e2 : (V4).heap.size = (V0).heap.size := (by simpa [Value.ownBlock] using e); have := SZ.out; omega)
          refine contQ_now ⟨keep1 (HB8.out.block _ lz), ?_⟩
          refine wpPlan_step ?_
          simp only [pickL, List.getElem?_cons_zero, List.getElem?_cons_succ]
          refine wpQuiet_nil ?_
          have NW := natsV_news (RB.out.below HB8.out)
          rw [HNN.out] at NW
          have HNW := Lib.hid NW; clear NW
          go_wp2_with (at_builtin; refine wpList_append_src (by rfl) _ _ 22 rfl wr.heap.size 3 j0 (.int .i64 0) 1 8 Try.underlying22 JI.out Y0.out Y1.out Y2.out rfl (by decide) _ 0 [] rfl OW.out aB nl cB (natsV now) rfl NVL.out HNW.out (natsV_one now) (by unfold maxLen; omega) (by omega) HB8.out.size ?_; intro v3 V9 hown3 hgrow3)
          rw [Nat.zero_add, List.nil_append] at hown3
          have g3 : (V8).grownBy V9 (Value.slice (some ⟨(V0).heap.size, 0, none⟩) 0 0).ownBlock := hgrow3
          have HB9 := Lib.hid (HB8.out.grown g3 HB8.out.size (fun b e => (OW.out.lt b e).1))
          obtain ⟨a3, c3, rfl⟩ := own_form hown3
          have RW := Lib.hid hown3
          have NN := Lib.hid (fun (i : Nat) (u : Value) (h : [Value.int .i64 (n : Int)][i]? = some u) => (cell_add (g3.block _ LB5.out NE5.out)).trans (NN.out i u h))
          clear hown3 hgrow3 OW HNW
          refine contQ_now ⟨keep1 (HB9.out.block _ lz), ?_⟩
          refine wpPlan_step ?_
          simp only [pickL, List.getElem?_cons_zero, List.getElem?_cons_succ]
          refine wpQuiet_nil ?_
          go_wp2_with (at_builtin; refine wpList_append_own _ rfl _ _ 22 rfl wr.heap.size 3 j0 (.int .i64 0) 1 8 Try.underlying22 JI.out Y0.out Y1.out Y2.out rfl (by decide) _ nl (natsV now) rfl RW.out ⟨(V4).heap.size, 0, none⟩ 1 1 [.int .i64 (n : Int)] rfl rfl NN.out (by simp [Value.oneCell']) (by unfold maxLen; omega) (by omega) HB9.out.size ?_; intro v6 V10 hown6 hgrow6 _)
          have g6 : (V9).grownBy V10 (Value.slice a3 nl c3).ownBlock := hgrow6
          have HB10 := Lib.hid (HB9.out.grown g6 HB9.out.size (fun b e => (RW.out.lt b e).1))
          rw [natsV_push, ← EL.out] at hown6
          obtain ⟨a6, c6, rfl⟩ := own_form hown6
          have R6 := Lib.hid (row_of_own hown6 OBL.out)
          rw [EL.out]
          clear hown6 hgrow6 RW NN g6
          refine contQ_now ⟨keep1 (HB10.out.block _ lz), ?_⟩
          refine wpPlan_step ?_
          simp only [pickL, List.getElem?_cons_zero, List.getElem?_cons_succ]
          refine wpQuiet_nil ?_
          have CALL := HI.out (now ++ [n]) a6 c6 ax cx (P ++ planN y.M h now n) V10 EN.out (HPX.out.below HB10.out) R6.out (HB2.out.trans (HB10.out.mono HBW.out)) ELN.out
          rw [EL.out, ← HL.out, EP.out, HL8.out, EMH.out] at CALL
          have HCALL := Lib.hid CALL; clear CALL
          go_wp2_with fail
          rename_i KK hKK
          (with_reducible refine HCALL.out.mono ?_)
          rintro e w8 ⟨a8, c8, rfl, hP8, hg8, hk8⟩
          have gA : W1.grownBy V10 (obA a) := grownBy_trans HG.out (grownBy_of_below HB10.out _)
          have gB : W1.grownBy w8 (obA a) := by rcases HK.out with e | e; exact grownBy_trans gA (by rw [← e]; exact hg8); exact grownBy_fresh gA hg8 e
          have HK8 := Lib.hid (show obA a8 = obA a ∨ ∀ b, obA a8 = some b → W1.heap.size ≤ b by rcases hk8 with e | e; rw [e]; exact HK.out; exact .inr (fun b hb => by have := e b hb; have := gA.size; omega))
          have HG8 := Lib.hid gB
          have HP8 := Lib.hid hP8
          clear gA gB hk8 hg8 hP8
          refine hKK _ _ (contQ_nil ⟨keep1 ((HG8.out.block _ lc0 nz).trans (HG.out.block _ lc0 nz).symm), ?_⟩)
          clear hKK KK
          refine wpPlan_last ?_
          simp only [pickL, List.getElem?_cons_zero, List.getElem?_cons_succ]
          repeat (go_big_quiet_step (fail))
          refine wpQuiet_nil ?_
          refine contN_nil ?_
          go_wp2_with fail
          go_roundw
          case rel => exact ⟨n + 1, a8, c8, l8, by have := HLE.out; omega, by go_num, rfl, Lib.hid HL8.out.symm, HP8, HG8, HK8⟩
          case measure => have := HLE.out; simp only [intOf]; omega
      · go_wp2_with fail
        obtain ⟨V11, hV11⟩ : ∃ V, (V0).alloc (.cells #[.int .i64 (n : Int)] 3) = V := ⟨_, rfl⟩
        have HB11 := Lib.hid (show Below wr.heap.size wr V11 by rw [← hV11]; exact HB3.out.alloc HB3.out.size _)
        have NN := Lib.hid (show ∀ (i : Nat) (u : Value), [Value.int .i64 (n : Int)][i]? = some u → V11.cell? ((⟨(V0).heap.size, 0, none⟩ : Addr).add i) = some u by rw [← hV11]; exact news_lit _ _ _)
        rw [hV11]
        clear hV11
        have LB5 := Lib.hid (show (V0).heap.size < V11.heap.size by have e := NN.out 0 _ rfl; rw [addr_add] at e; exact World.block_lt_of_cell? _ _ e)
        refine contQ_now ⟨keep1 (HB11.out.block _ lz), ?_⟩
        refine wpPlan_step ?_
        simp only [pickL, List.getElem?_cons_zero, List.getElem?_cons_succ]
        refine wpQuiet_nil ?_
        go_wp2_with fail
        obtain ⟨V12, hV12⟩ : ∃ V, (V11).alloc (.cells #[] 3) = V := ⟨_, rfl⟩
        have HB12 := Lib.hid (show Below wr.heap.size wr V12 by rw [← hV12]; exact HB11.out.alloc HB11.out.size _)
        have OW := Lib.hid (show V12.ownsRow wr.heap.size 3 1 (.slice (some ⟨(V11).heap.size, 0, none⟩) 0 0) 0 [] by rw [← hV12]; exact ⟨rfl, .inr ⟨_, 0, #[], rfl, HB11.out.size, alloc_at rfl, Nat.le_refl _, Nat.zero_le _, rfl, rfl⟩⟩)
        have NN := Lib.hid (fun (i : Nat) (u : Value) (h : [Value.int .i64 (n : Int)][i]? = some u) => show V12.cell? ((⟨(V0).heap.size, 0, none⟩ : Addr).add i) = some u by rw [← hV12]; exact (cell_add ((below_alloc _ _).block _ LB5.out)).trans (NN.out i u h))
        rw [hV12]
        clear hV12
        refine contQ_now ⟨keep1 (HB12.out.block _ lz), ?_⟩
        refine wpPlan_step ?_
        simp only [pickL, List.getElem?_cons_zero, List.getElem?_cons_succ]
        refine wpQuiet_nil ?_
        have NW := natsV_news (RB.out.below HB12.out)
        rw [HNN.out] at NW
        have HNW := Lib.hid NW; clear NW
        go_wp2_with (at_builtin; refine wpList_append_src (by rfl) _ _ 22 rfl wr.heap.size 3 j0 (.int .i64 0) 1 8 Try.underlying22 JI.out Y0.out Y1.out Y2.out rfl (by decide) _ 0 [] rfl OW.out aB nl cB (natsV now) rfl NVL.out HNW.out (natsV_one now) (by unfold maxLen; omega) (by omega) HB12.out.size ?_; intro v3 V13 hown3 hgrow3)
        rw [Nat.zero_add, List.nil_append] at hown3
        have g3 : (V12).grownBy V13 (Value.slice (some ⟨(V11).heap.size, 0, none⟩) 0 0).ownBlock := hgrow3
        have HB13 := Lib.hid (HB12.out.grown g3 HB12.out.size (fun b e => (OW.out.lt b e).1))
        obtain ⟨a3, c3, rfl⟩ := own_form hown3
        have RW := Lib.hid hown3
        have NN := Lib.hid (fun (i : Nat) (u : Value) (h : [Value.int .i64 (n : Int)][i]? = some u) => (cell_add (g3.block _ (by have e := NN.out 0 _ rfl; rw [addr_add] at e; exact World.block_lt_of_cell? _ _ e) (by intro e; have e2 : (V0).heap.size = (V11).heap.size := (by simpa [Value.ownBlock] using e); have := LB5.out; omega))).trans (NN.out i u h))
        clear hown3 hgrow3 OW HNW
        refine contQ_now ⟨keep1 (HB13.out.block _ lz), ?_⟩
        refine wpPlan_step ?_
        simp only [pickL, List.getElem?_cons_zero, List.getElem?_cons_succ]
        refine wpQuiet_nil ?_
        go_wp2_with (at_builtin; refine wpList_append_own _ rfl _ _ 22 rfl wr.heap.size 3 j0 (.int .i64 0) 1 8 Try.underlying22 JI.out Y0.out Y1.out Y2.out rfl (by decide) _ nl (natsV now) rfl RW.out ⟨(V0).heap.size, 0, none⟩ 1 1 [.int .i64 (n : Int)] rfl rfl NN.out (by simp [Value.oneCell']) (by unfold maxLen; omega) (by omega) HB13.out.size ?_; intro v6 V14 hown6 hgrow6 _)
        have g6 : (V13).grownBy V14 (Value.slice a3 nl c3).ownBlock := hgrow6
        have HB14 := Lib.hid (HB13.out.grown g6 HB13.out.size (fun b e => (RW.out.lt b e).1))
        rw [natsV_push, ← EL.out] at hown6
        obtain ⟨a6, c6, rfl⟩ := own_form hown6
        have R6 := Lib.hid (row_of_own hown6 OBL.out)
        rw [EL.out]
        clear hown6 hgrow6 RW NN g6
        refine contQ_now ⟨keep1 (HB14.out.block _ lz), ?_⟩
        refine wpPlan_step ?_
        simp only [pickL, List.getElem?_cons_zero, List.getElem?_cons_succ]
        refine wpQuiet_nil ?_
        have CALL := HI.out (now ++ [n]) a6 c6 ax cx (P ++ planN y.M h now n) V14 EN.out (HPX.out.below HB14.out) R6.out (HB2.out.trans (HB14.out.mono HBW.out)) ELN.out
        rw [EL.out, ← HL.out, EP.out, HL8.out, EMH.out] at CALL
        have HCALL := Lib.hid CALL; clear CALL
        go_wp2_with fail
        rename_i KK hKK
        (with_reducible refine HCALL.out.mono ?_)
        rintro e w8 ⟨a8, c8, rfl, hP8, hg8, hk8⟩
        have gA : W1.grownBy V14 (obA a) := grownBy_trans HG.out (grownBy_of_below HB14.out _)
        have gB : W1.grownBy w8 (obA a) := by rcases HK.out with e | e; exact grownBy_trans gA (by rw [← e]; exact hg8); exact grownBy_fresh gA hg8 e
        have HK8 := Lib.hid (show obA a8 = obA a ∨ ∀ b, obA a8 = some b → W1.heap.size ≤ b by rcases hk8 with e | e; rw [e]; exact HK.out; exact .inr (fun b hb => by have := e b hb; have := gA.size; omega))
        have HG8 := Lib.hid gB
        have HP8 := Lib.hid hP8
        clear gA gB hk8 hg8 hP8
        refine hKK _ _ (contQ_nil ⟨keep1 ((HG8.out.block _ lc0 nz).trans (HG.out.block _ lc0 nz).symm), ?_⟩)
        clear hKK KK
        refine wpPlan_last ?_
        simp only [pickL, List.getElem?_cons_zero, List.getElem?_cons_succ]
        repeat (go_big_quiet_step (fail))
        refine wpQuiet_nil ?_
        refine contN_nil ?_
        go_wp2_with fail
        go_roundw
        case rel => exact ⟨n + 1, a8, c8, l8, by have := HLE.out; omega, by go_num, rfl, Lib.hid HL8.out.symm, HP8, HG8, HK8⟩
        case measure => have := HLE.out; simp only [intOf]; omega
    · have hle2 : ¬ (n : Int) ≤ (m : Int) := by omega
      have d1 : decide ((n : Int) ≤ (m : Int)) = false := by simp; omega
      have hn1 : n = m + 1 := by omega
      have HN1 := Lib.hid hn1; clear hn1 hle
      go_wp2_with fail
      go_ret
      have e := HN1.out
      subst e
      rw [HL.out]
      exact ⟨ax, cx, by show Ending.returned (.slice ax (P ++ planN y.M h now (m + 1)).length cx) = _; rw [List.length_append], HPX.out, grownBy_trans (grownBy_of_below HBc.out _) HG.out, by rcases HK.out with e | e; exact .inl e; exact .inr (fun b hb => Nat.le_trans szw (e b hb))⟩

theorem plans_any (w0 : World) (y : Lyg) (hY : y.In w0) (hM : y.nM ≤ 10) (hR8 : ∀ i, i < y.nM → 0 ≤ y.M i ∧ y.M i ≤ 8) : ∀ h, PlansAt w0 y h
  | 0 => plans_zero w0 y hM
  | h + 1 => plans_succ w0 y hY hM hR8 h (plans_any w0 y hY hM hR8 h)
end Go.Proofs.Ytdcpgjepgajioaa
