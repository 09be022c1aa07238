/- Choices as coolings: contract of cools (WashCheapest); plain laws: First over choices, the first of the least sum. No conditions beyond each theorem's own. -/
import Derived.Test.YtecbacbecopbeaaCi
import Derived.Test.YtecbacbecopbeaaCe
import Derived.Test.YtecbacbecopbeaaEa
set_option linter.unusedVariables false
set_option linter.unusedSimpArgs false
set_option linter.unusedSectionVars false
set_option linter.constructorNameAsVariable false
namespace Go.Proofs.Ytecbacbecopbeaa
open Go.RowKit

attribute [local go_sem] gw_cell gw_frozen gw_size

theorem infoSp5 : (Try.prog.info? 23).map (fun i => (i.zero, i.size, i.bytes)) = some (some (.agg #[.int .i64 0, .int .i64 0]), 2, 16) := by kernel_rfl
theorem take_sum (l : List Nat) (j : Nat) (hj : j < l.length) : (l.take (j + 1)).sum = (l.take j).sum + l.getD j 0 := by
  rw [List.take_add_one, List.sum_append]
  simp [List.getD, hj]

set_option maxRecDepth 100000 in
set_option maxHeartbeats 4000000 in
theorem ccools_any (bc : Nat) (aS : Option Addr) (k cS : Nat) (F G : Nat → Int) (a : Option Addr) (c : Nat) (l : List Nat) (w : World) (hb : w.heap[bc]? = some (.cells #[.slice aS k cS] 34 (0, 0))) (hS : SpansAt w aS k F G)
    (hl : IntsAt w a l.length (fun i => ((l.getD i 0 : Nat) : Int))) (hlen : l.length ≤ 100) (hlt : ∀ i, i < l.length → l.getD i 0 < k) (hk : k ≤ 1000) :
    Calls Try.prog 48 #[.slice a l.length c, .pointer (some ⟨bc, 0, none⟩)] w fun e w' => ∃ ao co, e = .returned (.tuple #[.slice ao l.length co, .int .i64 ((l.sum : Nat) : Int)]) ∧ SpansAt w' ao l.length (fun i => F (l.getD i 0)) (fun i => G (l.getD i 0)) ∧ Below w.heap.size w w' := by
  have HB := Lib.hid hb; have HS := Lib.hid hS; have HL := Lib.hid hl; have HX := Lib.hid hlt; clear hb hS hl hlt
  obtain ⟨j0, jh, jy0, jy1, jy2⟩ := info_parts infoSp5
  have JI := Lib.hid jh; have Y0 := Lib.hid jy0; have Y1 := Lib.hid jy1; have Y2 := Lib.hid jy2
  clear jh jy0 jy1 jy2
  obtain ⟨n, hn⟩ : ∃ n, l.length = n := ⟨_, rfl⟩
  have HN := Lib.hid hn
  rw [hn] at HL HX hlen ⊢
  clear hn
  go_enter Try.func48, Try.ntmps48
  go_wp2_with fail
  go_loopw [5, 6, 11] (fun s5 s6 i wr => ∃ (j S : Nat) (aO : Option Addr) (cO : Nat), j ≤ n ∧ s5 = .slice aO j cO ∧ s6 = .int .i64 S ∧ i = .int .i64 j ∧ S ≤ 1000 * j ∧ Hid (S = (l.take j).sum) ∧ Hid (wr.ownsRow w.heap.size 23 2 (.slice aO j cO) j (spansV j (fun i => F (l.getD i 0)) (fun i => G (l.getD i 0)))) ∧ Hid (Below w.heap.size w wr)) (fun _ _ i _ => n - (intOf i).toNat)
  case atStart => exact ⟨0, 0, none, 0, Nat.zero_le _, rfl, rfl, rfl, Nat.le_refl _, Lib.hid (by simp), Lib.hid (World.ownsRow_nil _ _ _ _), Lib.hid (Below.refl _ _)⟩
  case round =>
    obtain ⟨j, S, aO, cO, hj, rfl, rfl, rfl, hS1, HSU, RO, BR⟩ := hrel
    by_cases hlt : j < n
    · obtain ⟨bl, ol, rfl, lbl, hcl⟩ := HL.out.resolve_left (by omega)
      have m0 := (BR.out.cell (p := ⟨bl, ol + j, none⟩) lbl).trans (hcl j hlt)
      have lbl2 := Nat.lt_of_lt_of_le lbl BR.out.size
      clear hcl
      have hx := HX.out j hlt
      have TS_ := Lib.hid (take_sum l j (by rw [HN.out]; exact hlt))
      obtain ⟨x, hxx⟩ : ∃ x, l.getD j 0 = x := ⟨_, rfl⟩
      have VS := Lib.hid (spansV_succ j (fun i => F (l.getD i 0)) (fun i => G (l.getD i 0)))
      simp only [hxx] at m0 hx TS_ VS
      clear hxx
      obtain ⟨bs, os, rfl, lbs, hcs⟩ := HS.out.resolve_left (by omega)
      obtain ⟨p0, p1⟩ := hcs x hx
      clear hcs
      obtain ⟨f, hf0⟩ : ∃ f, F x = f := ⟨_, rfl⟩
      obtain ⟨g, hg0⟩ : ∃ g, G x = g := ⟨_, rfl⟩
      simp only [hf0, hg0] at p0 p1 VS
      clear hf0 hg0
      have q0 := (BR.out.cell (p := ⟨bs, os + x * 2, none⟩) lbs).trans p0
      have q1 := (BR.out.cell (p := ⟨bs, os + x * 2 + 1, none⟩) lbs).trans p1
      have lbs2 := Nat.lt_of_lt_of_le lbs BR.out.size
      have zb := (BR.out.block bc (Array.getElem?_eq_some_iff.1 HB.out).1).trans HB.out
      have e0 := cell_of_block zb 0 (by simp)
      have lb0 := (Array.getElem?_eq_some_iff.1 zb).1
      have sz := BR.out.size
      clear zb p0 p1
      go_wp2_with (at_builtin; refine wpList_append_own _ rfl _ _ 34 rfl w.heap.size 23 j0 (.agg #[.int .i64 0, .int .i64 0]) 2 16 Try.underlying34 JI.out Y0.out Y1.out Y2.out rfl (by decide) _ j (spansV j (fun i => F (l.getD i 0)) (fun i => G (l.getD i 0))) rfl (RO.out.alloc _) ⟨wr.heap.size, 0, none⟩ 1 1 [.int .i64 f, .int .i64 g] rfl rfl (news_lit _ _ _) (by simp [Value.oneCell']) (by unfold maxLen; omega) (by omega) (by simp; omega) ?_; intro v9 w9 hown9 hgrow9 _)
      rw [← VS.out] at hown9
      obtain ⟨a9, c9, rfl⟩ := own_form hown9
      have HO9 := Lib.hid hown9
      have HB9 := Lib.hid ((BR.out.alloc BR.out.size (.cells #[.int .i64 f, .int .i64 g] 23)).grown hgrow9 (by simp; omega) (fun b hb => (RO.out.lt b hb).1))
      have SU9 := Lib.hid (show S + x = (l.take (j + 1)).sum by have h1 := TS_.out; have h2 := HSU.out; omega)
      clear hown9 hgrow9 VS
      go_wp2_with fail
      go_roundw
      case rel => exact ⟨j + 1, S + x, a9, c9, by omega, rfl, by go_num, by go_num, by omega, SU9, HO9, HB9⟩
      case measure => simp [intOf]; omega
    · obtain rfl : n = j := by omega
      have hs : (l.sum : Int) = (S : Int) := by
        have h1 := HSU.out
        have h2 := HN.out
        rw [← h2, List.take_length] at h1
        omega
      have HSS := Lib.hid hs
      clear hs
      go_wp2_with fail
      go_ret2
      obtain ⟨a', c', hv, hT⟩ := spans_of_own RO.out
      cases hv
      refine ⟨aO, cO, ?_, hT, BR.out⟩
      rw [HSS.out]
      rfl

/-- the vats behind choices -/
def Ctx.chF (c : Ctx) (l : List Nat) : Nat → Int := fun i => c.F (l.getD i 0)
def Ctx.chG (c : Ctx) (l : List Nat) : Nat → Int := fun i => c.G (l.getD i 0)
theorem vs_cons (c : Ctx) (v : Vat) (i : Nat) (r : List Nat) : ∀ j, c.y.vs v (c.chF (i :: r)) (c.chG (i :: r)) (j + 1) = c.y.vs (c.next v i) (c.chF r) (c.chG r) j
  | 0 => rfl
  | j + 1 => by
    show c.y.hour (c.y.vs v (c.chF (i :: r)) (c.chG (i :: r)) (j + 1)) _ _ = c.y.hour (c.y.vs (c.next v i) (c.chF r) (c.chG r) j) _ _
    rw [vs_cons c v i r j]
    rfl
theorem run_vs (c : Ctx) : ∀ (l : List Nat) (v : Vat), c.run v l ↔ ∀ j, j < l.length → l.getD j 0 < c.k ∧ vatB (c.y.vs v (c.chF l) (c.chG l) (j + 1)) = true ∧ inB' c.y v (c.chF l) (c.chG l) c.ll c.lh j = true
  | [], v => by simp [Ctx.run]
  | i :: r, v => by
    unfold Ctx.run
    rw [run_vs c r]
    have e0 : c.y.vs v (c.chF (i :: r)) (c.chG (i :: r)) 1 = c.next v i := rfl
    constructor
    · rintro ⟨h1, h2, h3⟩ j hj
      simp only [Ctx.ok, Bool.and_eq_true] at h2
      cases j with
      | zero => exact ⟨h1, h2.1, h2.2⟩
      | succ j =>
        have := h3 j (by simp at hj; omega)
        refine ⟨this.1, ?_, ?_⟩
        · rw [vs_cons]; exact this.2.1
        · unfold inB'; rw [vs_cons]; exact this.2.2
    · intro h
      have h0 := h 0 (by simp)
      refine ⟨h0.1, by simp only [Ctx.ok, Bool.and_eq_true]; exact ⟨h0.2.1, h0.2.2⟩, fun j hj => ?_⟩
      have := h (j + 1) (by simp; omega)
      refine ⟨this.1, ?_, ?_⟩
      · rw [← vs_cons]; exact this.2.1
      · have h2 := this.2.2
        unfold inB' at h2 ⊢
        rw [vs_cons] at h2
        exact h2
theorem first_run {c : Ctx} {v : Vat} {l : List Nat} (hB : ystB c.y = true) (hv : vatB v = true) (hC : ∀ i, i < c.k → inSp 150000 c.F c.G i = true) (hl : ¬ c.lh < c.ll) (hlen : l.length ≤ 200) (hk : ∀ i, i < l.length → l.getD i 0 < c.k) :
    (c.run v l → firstE c.y v l.length (c.chF l) (c.chG l) c.ll c.lh = 4) ∧ (firstE c.y v l.length (c.chF l) (c.chG l) c.ll c.lh = 4 → c.run v l) := by
  rw [run_vs]
  constructor
  · intro h
    have h0 : ferE c.y v l.length (c.chF l) (c.chG l) = 0 := ferE_ok hlen hB (allB_t.2 fun i hi => hC _ (hk i hi)) (fun j hj => by cases j with
      | zero => exact hv
      | succ j => exact (h j (by omega)).2.1)
    exact (first_none hl h0 (fun t ht => (h t ht).2.2)).1
  · intro h j hj
    unfold firstE at h
    rw [if_neg hl] at h
    split at h
    · rename_i h0
      split at h
      · cases h
      · rename_i h1
        have hle := okN_le (inB' c.y v (c.chF l) (c.chG l) c.ll c.lh) l.length
        have hall := okN_lt (inB' c.y v (c.chF l) (c.chG l) c.ll c.lh) l.length
        obtain ⟨_, _, _, _, hV⟩ := ferE_zero h0
        exact ⟨hk j hj, hV (j + 1) (by omega), hall j (by omega)⟩
    · rename_i h0
      exfalso
      unfold ferE at h
      split at h
      · cases h
      · split at h
        · split at h
          · cases h
          · cases h
        · cases h
theorem cools_lex (c : Ctx) : ∀ (h : Nat) (v : Vat) (s : Nat) (L l : List Nat), c.cools h v s = some L → c.run v l → l.length = h → l.sum = s → ∀ i, i < h → (∀ t, t < i → L.getD t 0 = l.getD t 0) → L.getD i 0 ≤ l.getD i 0
  | 0, _, _, _, _, _, _, _, _, i, hi, _ => by omega
  | h + 1, v, s, L, l, hL, hr, hl, hs, i, hi, hp => by
    unfold Ctx.cools at hL
    obtain ⟨i0, r, h1, h2, rfl, h4⟩ := firstC_some hL
    cases l with
    | nil => simp at hl
    | cons j0 r' =>
      simp at hl hs
      obtain ⟨g1, g2, g3⟩ := hr
      have hle : i0 ≤ j0 := by
        rcases Nat.lt_or_ge j0 i0 with hlt | hge
        · have := h4 j0 hlt
          rw [if_pos ⟨by omega, g2⟩] at this
          exact absurd g3 (cools_none c h _ _ this r' hl (by omega))
        · exact hge
      cases i with
      | zero => exact hle
      | succ i =>
        have e0 := hp 0 (by omega)
        have e0 : i0 = j0 := e0
        subst e0
        rw [if_pos ⟨by omega, g2⟩] at h2
        exact cools_lex c h _ _ r r' h2 g3 hl (by omega) i (by omega) (fun t ht => hp (t + 1) (by omega))
end Go.Proofs.Ytecbacbecopbeaa
