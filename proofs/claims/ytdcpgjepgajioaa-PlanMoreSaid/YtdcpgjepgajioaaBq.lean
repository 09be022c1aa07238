/- Rows of cellars written anew; the closure of the search when all years are laid. No conditions beyond each theorem's own. -/
import Derived.Test.YtdcpgjepgajioaaBp
set_option linter.unusedVariables false
set_option linter.unusedSimpArgs false
set_option linter.unusedSectionVars false
set_option linter.constructorNameAsVariable false
namespace Go.Proofs.Ytdcpgjepgajioaa
open Go.RowKit

attribute [local go_sem] gw_cell gw_frozen gw_size

theorem CelsAt.rw {w w' : World} {g n i : Nat} {L : Nat → List Int} {c : List Int} (h : CelsAt w g n L) (hr : Rw w w' g (i * 32)) (hc : CelAt w' g (i * 32) c) : CelsAt w' g n (fun k => if k = i then c else L k) := fun k hk => by
  by_cases e : k = i
  · subst e; simpa using hc
  · simp only [if_neg e]
    exact (h k hk).other hr (.inr (by omega))
theorem CelsAt.grown {w w' : World} {g n b : Nat} {L : Nat → List Int} (h : CelsAt w g n L) (hg : w.grownBy w' (some b)) (hne : g ≠ b) : CelsAt w' g n L := fun k hk =>
  (h k hk).same (hg.block g (h k hk).lt (fun e => hne (by cases e; rfl)))
theorem CelsAt.put {w : World} {g n i : Nat} {L : Nat → List Int} {c : List Int} (h : CelsAt w g n L) (hi : i < n) (hl : c.length = 32) : CelsAt (w.setCells g (i * 32) (cV c)) g n (fun k => if k = i then c else L k) := by
  obtain ⟨a, b⟩ := (h i hi).put hl
  exact h.rw b a
theorem CelsAt.keep {w w' : World} {g n : Nat} {L : Nat → List Int} (h : CelsAt w g n L) (hb : w'.heap[g]? = w.heap[g]?) : CelsAt w' g n L := fun k hk => (h k hk).same hb
theorem nats_ints (l : List Nat) : intsV l.length (fun i => ((l.getD i 0 : Nat) : Int)) = natsV l := by
  apply List.ext_getElem
  · simp [intsV, natsV]
  · intro i h1 h2
    have hi : i < l.length := by simpa [natsV] using h2
    simp [intsV, natsV, List.getD, hi]
theorem clone_row {w : World} {D c : Nat} {a : Option Addr} {l : List Nat} (h : RowN w D a l c) (hl : l.length ≤ 1000) :
    Calls Try.prog 37 #[.slice a l.length c] w fun e w' => ∃ a' c', e = .returned (.slice a' l.length c') ∧ RowN w' w.heap.size a' l c' ∧ Below w.heap.size w w' :=
  (cloneI_any a l.length c _ w h.ints hl).mono fun e w' ⟨a', c', h1, h2, h3⟩ => ⟨a', c', h1, by unfold RowN; rw [← nats_ints]; exact h2, h3⟩
/-- a cellar at the beginning of a year -/
def RowOk (t : Nat) (c : List Int) : Prop := NonNeg c ∧ tot c ≤ 35184372088832 + t * 1099511627776

set_option maxRecDepth 100000 in
set_option maxHeartbeats 4000000 in
theorem try_zero (w0 : World) (o : Otl) (y : Lyg) (fw : Nat) (lw : Array Value) (q : Bx) (D : Nat) (hq : q.Ok w0.heap.size D) (low high : Nat → List Int) (vl vh : Value) (cost : Int) (now : List Nat) (st : St) (wt : Nat → Int) (r : Option Nat) (w : World)
    (T : TS w0 o y fw lw q D r now st w) (hn : now.length = y.nM) (hm : y.nM ≤ 10) :
    Calls Try.prog 61 #[vl, vh, .int .i64 cost, .pointer (some ⟨q.gn, 0, none⟩), .pointer (some ⟨q.gy, 0, none⟩), .pointer (some ⟨q.gb, 0, none⟩), .pointer (some ⟨q.gs, 0, none⟩), .pointer (some ⟨q.gf, 0, none⟩), .pointer (some ⟨q.gw, 0, none⟩), .pointer (some ⟨q.go, 0, none⟩), .pointer (some ⟨q.gr, 0, none⟩), .pointer (some ⟨q.gl, 0, none⟩), .pointer (some ⟨q.gg, 0, none⟩), .pointer (some ⟨q.gt, 0, none⟩)] w fun e w' => (∃ x, e = .returned x) ∧ ∃ r', TS w0 o y fw lw q D r' now (tryF o y wt 0 low high cost now st) w' ∧ TK q r w w' r' := by
  have hq0 := hq
  obtain ⟨o1, o2, o3, o4, o5, o6, o7, o8, o9, o10, o11, o12, o13⟩ := hq
  have T0 := Lib.hid T
  obtain ⟨-, ⟨aN, cN, t3, t4, t5⟩, -, -, -, xy, -⟩ := T
  have OL := Lib.hid (own_lt t4 t5)
  have egn0 := cell_of_block t3 0 (by simp)
  have lgn := (Array.getElem?_eq_some_iff.1 t3).1
  have egy1 : w.cell? ⟨q.gy, 1, none⟩ = some (.slice y.aM y.nM y.cM) := cell_of_block xy 1 (by simp [Lyg.cells])
  have lgy := (Array.getElem?_eq_some_iff.1 xy).1
  have DS : D ≤ w.heap.size := by have := (Array.getElem?_eq_some_iff.1 T0.out.xt).1; omega
  have CLO := Lib.hid (clone_row t4 (by omega))
  have hne : ((now.length : Int) == (y.nM : Int)) = true := by simp; omega
  clear t3 t4 t5 xy hn
  go_enter Try.func61, Try.ntmps61
  go_wp2_with fail
  go_step3
  go_wp2_with fail
  refine CLO.out.mono ?_
  rintro e w2 ⟨a2, c2, rfl, hr2, hb2⟩
  have T2 := Lib.hid (T0.out.below hb2)
  have HR2 := Lib.hid hr2
  have HB2 := Lib.hid hb2
  clear hr2 hb2
  obtain ⟨-, -, ⟨ab, cb, s6, -, -⟩, s7, s8, -⟩ := T2.out
  have d1 := cell_of_block s6 0 (by simp)
  have d2 := cell_of_block s7 0 (by simp)
  have d3 := cell_of_block s8 0 (by simp)
  have f1 := frozen_of_block s6 0
  have f2 := frozen_of_block s7 0
  have f3 := frozen_of_block s8 0
  have l1 := (Array.getElem?_eq_some_iff.1 s6).1
  have l2 := (Array.getElem?_eq_some_iff.1 s7).1
  have l3 := (Array.getElem?_eq_some_iff.1 s8).1
  have ne1 : q.gb ≠ q.gs := by omega
  have ne2 : q.gb ≠ q.gf := by omega
  have ne3 : q.gs ≠ q.gf := by omega
  have ne4 : q.gs ≠ q.gb := by omega
  have ne5 : q.gf ≠ q.gb := by omega
  have ne6 : q.gf ≠ q.gs := by omega
  clear s6 s7 s8 egn0 egy1 CLO
  go_wp2_with fail
  obtain ⟨W5, hW5⟩ : ∃ z, ((w2.setCell ⟨q.gb, 0, none⟩ (.slice a2 now.length c2)).setCell ⟨q.gs, 0, none⟩ (.int .i64 cost)).setCell ⟨q.gf, 0, none⟩ (.bool true) = z := ⟨_, rfl⟩
  rw [hW5]
  obtain ⟨T5, K5⟩ := TS.found hq0 T2.out HR2.out DS (fun b hb => (OL.out b hb).2) cost hW5
  try rw [Exit.noGoto_ret]
  refine bodyPost_ret (v := .tuple #[]) (by simp [results, Try.results61, go_sem]) rfl ⟨⟨_, rfl⟩, r, T5, ?_⟩
  exact (TK.below HB2.out).trans K5
end Go.Proofs.Ytdcpgjepgajioaa
