/- Plain: more room and more lots; one more path; the paths turned round. No conditions beyond each theorem's own. -/
import Derived.Test.YtdcpgjepgajioaaNa
import Derived.Test.YtdcpgjepgajioaaRa
set_option linter.unusedVariables false
set_option linter.unusedSimpArgs false
set_option linter.unusedSectionVars false
set_option linter.constructorNameAsVariable false
namespace Go.Proofs.Ytdcpgjepgajioaa
open Go.RowKit

theorem year_room {o : Otl} {y y' : Lyg} {i t : Nat} {L : Nat → Int} (hroom : y.room ≤ y'.room) (hlot : y'.lot = y.lot) (hc : o.celAt i L y'.lot y'.roomB (parHi o) t = o.celAt i L y.lot y.roomB (parHi o) t) (h : o.errHi y i L t = 0) :
    o.yrAt i L y'.lot y'.roomB (parHi o) t = o.yrAt i L y.lot y.roomB (parHi o) t ∧ o.errHi y' i L t = 0 := by
  have key : o.yrAt i L y'.lot y'.roomB (parHi o) t = o.yrAt i L y.lot y.roomB (parHi o) t := by
    unfold Otl.errHi at h
    unfold Otl.yrAt yearF at h ⊢
    rw [hc, hlot]
    by_cases hr : y.roomB (tot ((o.celAt i L y.lot y.roomB (parHi o) t).set 0 ((o.celAt i L y.lot y.roomB (parHi o) t).getD 0 0 + L t * y.lot))) = true
    · have hr2 : y'.roomB (tot ((o.celAt i L y.lot y.roomB (parHi o) t).set 0 ((o.celAt i L y.lot y.roomB (parHi o) t).getD 0 0 + L t * y.lot))) = true := by
        unfold Lyg.roomB at hr ⊢
        simp only [decide_eq_true_eq] at hr ⊢
        omega
      rw [if_pos hr, if_pos hr2]
    · rw [if_neg hr] at h; cases h
  exact ⟨key, by unfold Otl.errHi at h ⊢; rw [key]; exact h⟩
/-- what keeps an outlook keeps it with more room, too -/
theorem keepB_wide {o : Otl} {y y' : Lyg} {p : List Nat} (hB : outB o = true) (hLB' : layB o y' = true) (hlot : y'.lot = y.lot) (hroom : y.room ≤ y'.room) (hn : y'.nM = y.nM) (hM : ∀ t, t < y.nM → y.M t ≤ y'.M t) (hp : p ∈ planL y.M y.nM []) (hk : keepB o y p = true) : keepB o y' p = true ∧ p ∈ planL y'.M y'.nM [] := by
  obtain ⟨r, e, hr, hv⟩ := mem_plan y.nM hp
  have hl : p.length = y.nM := by rw [e]; simpa using hr
  have hv2 : ∀ t, t < p.length → lotF p t ≤ y'.M t := fun t ht => Int.le_trans (hv t (Nat.zero_le _) (by simp; omega)) (hM t (by omega))
  have K := keepB_t.1 hk
  refine ⟨keepB_t.2 ⟨argE_lots hB hLB' (by omega) hv2, fun i hi t ht => ⟨?_, ?_⟩⟩, ?_⟩
  · have := (K.2 i hi t ht).1
    unfold Otl.errLo at this ⊢
    rw [hlot]; exact this
  · have cell : ∀ t, t ≤ p.length → o.celAt i (lotF p) y'.lot y'.roomB (parHi o) t = o.celAt i (lotF p) y.lot y.roomB (parHi o) t := fun t => by
      induction t with
      | zero => intro _; rfl
      | succ t ih =>
        intro ht
        have e1 := ih (by omega)
        have e2 := (K.2 i hi t (by omega)).2
        have e3 := (year_room (y' := y') hroom hlot e1 e2).1
        rw [celAt_succ, celAt_succ, e3]
    have e2 := (K.2 i hi t ht).2
    have := (year_room (y' := y') hroom hlot (cell t (by omega)) e2).2
    exact this
  · have := mem_plans hv2
    rw [hl, ← hn] at this
    exact this
theorem find_wide {o : Otl} {y y' : Lyg} {wt : Nat → Int} (hB : outB o = true) (hLB : layB o y = true) (hLB' : layB o y' = true) (hlot : y'.lot = y.lot) (hroom : y.room ≤ y'.room) (hn : y'.nM = y.nM) (hM : ∀ t, t < y.nM → y.M t ≤ y'.M t) (hw : ∀ t, t < y.nM → 0 ≤ wt t) {x : List Nat × Int} (hf : findF o y wt = some x) : ∃ x', findF o y' wt = some x' ∧ x'.2 ≤ x.2 := by
  obtain ⟨a, b, c, d, e⟩ := find_ok hB hLB hw hf
  obtain ⟨k1, k2⟩ := keepB_wide hB hLB' hlot hroom hn hM e c
  have hw' : ∀ t, t < y'.nM → 0 ≤ wt t := fun t ht => hw t (by omega)
  cases h : findF o y' wt with
  | none => rw [find_none hB hLB' hw' h k2] at k1; cases k1
  | some x' => exact ⟨x', rfl, by rw [d]; exact (find_least hB hLB' hw' h k2 k1).1⟩
/-- one more path -/
def Otl.cons (o : Otl) (r : RowVs) (a : Option Addr) (c : Nat) : Otl := ⟨o.aS, o.nS, o.cS, o.S, o.kl, o.kh, o.aA, o.nA, o.cA, o.A, a, o.nP + 1, c,
  fun i => match i with | 0 => r.a | i + 1 => o.pA i, fun i => match i with | 0 => r.n | i + 1 => o.pN i, fun i => match i with | 0 => r.c | i + 1 => o.pC i,
  fun i => match i with | 0 => fun t => (r.R t).a | i + 1 => o.yA i, fun i => match i with | 0 => fun t => (r.R t).n | i + 1 => o.yN i, fun i => match i with | 0 => fun t => (r.R t).c | i + 1 => o.yC i,
  fun i => match i with | 0 => fun t => (r.R t).L | i + 1 => o.V i⟩
theorem cons_cel {o : Otl} {r : RowVs} {a : Option Addr} {c i : Nat} {L : Nat → Int} {lot : Int} {room : Int → Bool} {part : Int → Int} : ∀ t, (o.cons r a c).celAt (i + 1) L lot room part t = o.celAt i L lot room part t
  | 0 => rfl
  | t + 1 => by
    show lateF part (yearF o.A (o.V i t) o.nA (L t * lot) room ((o.cons r a c).celAt (i + 1) L lot room part t)).1 = lateF part (yearF o.A (o.V i t) o.nA (L t * lot) room (o.celAt i L lot room part t)).1
    rw [cons_cel t]
theorem cons_yr {o : Otl} {r : RowVs} {a : Option Addr} {c i t : Nat} {L : Nat → Int} {lot : Int} {room : Int → Bool} {part : Int → Int} : (o.cons r a c).yrAt (i + 1) L lot room part t = o.yrAt i L lot room part t := by
  show yearF o.A (o.V i t) o.nA (L t * lot) room ((o.cons r a c).celAt (i + 1) L lot room part t) = yearF o.A (o.V i t) o.nA (L t * lot) room (o.celAt i L lot room part t)
  rw [cons_cel]
theorem keepB_cons {o : Otl} {y : Lyg} {r : RowVs} {a : Option Addr} {c : Nat} {p : List Nat} (h0 : argE o y p.length (lotF p) = 0) (hk : keepB (o.cons r a c) y p = true) : keepB o y p = true := by
  refine keepB_t.2 ⟨h0, fun i hi t ht => ?_⟩
  have := (keepB_t.1 hk).2 (i + 1) (by show i + 1 < o.nP + 1; omega) t ht
  unfold Otl.errLo Otl.errHi at this ⊢
  rw [cons_yr, cons_yr] at this
  exact this
/-- one more path makes nothing cheaper -/
theorem find_cons {o : Otl} {y : Lyg} {r : RowVs} {a : Option Addr} {c : Nat} (hB : outB o = true) (hLB : layB o y = true) (h : chE (o.cons r a c) y y.R = 0) : ∃ x, findF o y y.R = some x ∧ x.2 ≤ chS (o.cons r a c) y y.R := by
  have hv : outB (o.cons r a c) = true ∧ layB (o.cons r a c) y = true := by
    by_cases hv : outB (o.cons r a c) = true ∧ layB (o.cons r a c) y = true
    · exact hv
    · rw [(ch_arg hv).1] at h; cases h
  have hR : ∀ t, t < y.nM → 0 ≤ y.R t := fun t ht => ((layB_t hLB).2.2.1 t (by have a := layB_t hLB; have := a.1; have := a.2.1; omega)).1
  cases hf : findF (o.cons r a c) y y.R with
  | none => rw [(ch_none hv hf).1] at h; cases h
  | some x' =>
    obtain ⟨e1, e2, e3, e4, e5⟩ := find_ok hv.1 hv.2 hR hf
    rw [(ch_some hv hf).2.2]
    have k := keepB_cons (argE_lots hB hLB e1 (fun t ht => e2 t (by omega))) e3
    cases hf2 : findF o y y.R with
    | none => rw [find_none hB hLB hR hf2 e5] at k; cases k
    | some x => exact ⟨x, rfl, by rw [e4]; exact (find_least hB hLB hR hf2 e5 k).1⟩
/-- the paths turned round -/
def Otl.rev (o : Otl) (a : Option Addr) (c : Nat) : Otl := ⟨o.aS, o.nS, o.cS, o.S, o.kl, o.kh, o.aA, o.nA, o.cA, o.A, a, o.nP, c, fun i => o.pA (o.nP - 1 - i), fun i => o.pN (o.nP - 1 - i), fun i => o.pC (o.nP - 1 - i), fun i => o.yA (o.nP - 1 - i), fun i => o.yN (o.nP - 1 - i), fun i => o.yC (o.nP - 1 - i), fun i => o.V (o.nP - 1 - i)⟩
theorem rev_cel {o : Otl} {a : Option Addr} {c i : Nat} {L : Nat → Int} {lot : Int} {room : Int → Bool} {part : Int → Int} : ∀ t, (o.rev a c).celAt i L lot room part t = o.celAt (o.nP - 1 - i) L lot room part t
  | 0 => rfl
  | t + 1 => by
    show lateF part (yearF o.A (o.V (o.nP - 1 - i) t) o.nA (L t * lot) room ((o.rev a c).celAt i L lot room part t)).1 = lateF part (yearF o.A (o.V (o.nP - 1 - i) t) o.nA (L t * lot) room (o.celAt (o.nP - 1 - i) L lot room part t)).1
    rw [rev_cel t]
theorem rev_yr {o : Otl} {a : Option Addr} {c i t : Nat} {L : Nat → Int} {lot : Int} {room : Int → Bool} {part : Int → Int} : (o.rev a c).yrAt i L lot room part t = o.yrAt (o.nP - 1 - i) L lot room part t := by
  show yearF o.A (o.V (o.nP - 1 - i) t) o.nA (L t * lot) room ((o.rev a c).celAt i L lot room part t) = yearF o.A (o.V (o.nP - 1 - i) t) o.nA (L t * lot) room (o.celAt (o.nP - 1 - i) L lot room part t)
  rw [rev_cel]
theorem rev_outB {o : Otl} {a : Option Addr} {c : Nat} (h : outB o = true) : outB (o.rev a c) = true := by
  have OB := outB_t h
  refine outB_of (o := o.rev a c) OB.1 (allB_t.2 fun i hi => inB_t.2 (OB.2.1 i hi)) OB.2.2.1 OB.2.2.2.1 OB.2.2.2.2.1 OB.2.2.2.2.2.1 OB.2.2.2.2.2.2.1 (allB_t.2 fun i hi => inB_t.2 (OB.2.2.2.2.2.2.2.1 i hi)) (inB_t.2 (by have := OB.2.2.2.2.2.2.2.2.1; show (1 : Int) ≤ (o.nP : Int) ∧ (o.nP : Int) ≤ 8; omega)) (fun i hi => ?_)
  have hi2 : o.nP - 1 - i < o.nP := by have : i < o.nP := hi; omega
  have P := OB.2.2.2.2.2.2.2.2.2 _ hi2
  have P0 := OB.2.2.2.2.2.2.2.2.2 (o.nP - 1 - 0) (by omega)
  unfold Otl.pathB
  have a1 : (o.rev a c).pN i = o.pN 0 := P.1
  have a2 : (o.rev a c).pN 0 = o.pN 0 := P0.1
  have a3 : allB ((o.rev a c).pN i) ((o.rev a c).yearB i) = true := allB_t.2 fun t ht => by
    have Y := P.2.2 t ht
    unfold Otl.yearB
    have b1 : (o.rev a c).yN i t = (o.rev a c).nA := Y.1
    have b2 : (allB ((o.rev a c).yN i t) fun p => inB ((o.rev a c).V i t p) 0 1099511627776) = true := allB_t.2 (fun p hp => inB_t.2 (Y.2 p hp))
    rw [b2]
    simp [b1]
  rw [a3, a1, a2]
  have := P.2.1
  rw [P.1] at this
  simp [this]
theorem rev_layB {o : Otl} {y : Lyg} {a : Option Addr} {c : Nat} (h : outB o = true) : layB (o.rev a c) y = layB o y := by
  have OB := outB_t h
  have e : (o.rev a c).pN 0 = o.pN 0 := (OB.2.2.2.2.2.2.2.2.2 (o.nP - 1 - 0) (by have := OB.2.2.2.2.2.2.2.2.1; omega)).1
  unfold layB
  rw [e]
theorem rev_keepB {o : Otl} {y : Lyg} {a : Option Addr} {c : Nat} {p : List Nat} (hB : outB o = true) : keepB (o.rev a c) y p = keepB o y p := by
  have ea : argE (o.rev a c) y p.length (lotF p) = argE o y p.length (lotF p) := by unfold argE; rw [rev_outB hB, rev_layB hB, hB]
  have ee : ∀ i t, (o.rev a c).errLo y i (lotF p) t = o.errLo y (o.nP - 1 - i) (lotF p) t ∧ (o.rev a c).errHi y i (lotF p) t = o.errHi y (o.nP - 1 - i) (lotF p) t := fun i t => ⟨congrArg Prod.snd rev_yr, congrArg Prod.snd rev_yr⟩
  have key : keepB (o.rev a c) y p = true ↔ keepB o y p = true := by
    rw [keepB_t, keepB_t, ea]
    refine ⟨fun h => ⟨h.1, fun i hi t ht => ?_⟩, fun h => ⟨h.1, fun i hi t ht => ?_⟩⟩
    · have := h.2 (o.nP - 1 - i) (by show o.nP - 1 - i < o.nP; omega) t ht
      rw [(ee _ t).1, (ee _ t).2, show o.nP - 1 - (o.nP - 1 - i) = i by omega] at this
      exact this
    · rw [(ee i t).1, (ee i t).2]
      exact h.2 _ (by have : i < o.nP := hi; omega) t ht
  cases h1 : keepB (o.rev a c) y p with
  | true => exact (key.1 h1).symm
  | false => cases h2 : keepB o y p with
    | false => rfl
    | true => rw [key.2 h2] at h1; cases h1
theorem rev_find {o : Otl} {y : Lyg} {a : Option Addr} {c : Nat} {wt : Nat → Int} (hB : outB o = true) (hLB : layB o y = true) (hw : ∀ t, t < y.nM → 0 ≤ wt t) : findF (o.rev a c) y wt = findF o y wt := by
  rw [find_best (rev_outB hB) (by rw [rev_layB hB]; exact hLB) hw, find_best hB hLB hw]
  have : keepB (o.rev a c) y = keepB o y := funext fun p => rev_keepB hB
  rw [this]
theorem rev_ch {o : Otl} {y : Lyg} {a : Option Addr} {c : Nat} (hB : outB o = true) (hLB : layB o y = true) : chE (o.rev a c) y y.R = chE o y y.R ∧ chS (o.rev a c) y y.R = chS o y y.R := by
  have hR : ∀ t, t < y.nM → 0 ≤ y.R t := fun t ht => ((layB_t hLB).2.2.1 t (by have a := layB_t hLB; have := a.1; have := a.2.1; omega)).1
  have e1 : chE (o.rev a c) y y.R = chE o y y.R := by unfold chE; rw [rev_outB hB, rev_layB hB, hB, rev_find hB hLB hR]
  exact ⟨e1, by unfold chS; rw [e1, rev_find hB hLB hR]⟩
/-- what may be laid down, with other lots and another room -/
def Lyg.wide (y : Lyg) (a : Option Addr) (c : Nat) (M : Nat → Int) (room : Int) : Lyg := ⟨y.aR, y.nR, y.cR, y.R, a, y.nM, c, M, y.lot, room⟩
theorem wide_layB {o : Otl} {y : Lyg} {a : Option Addr} {c : Nat} {M : Nat → Int} {room : Int} (h : layB o y = true) (hM : ∀ t, t < y.nM → 0 ≤ M t ∧ M t ≤ 8) (hr : 0 ≤ room ∧ room ≤ 1099511627776) : layB o (y.wide a c M room) = true := by
  have L := layB_t h
  unfold layB
  have e1 : (y.wide a c M room).nR = o.pN 0 := L.1
  have e2 : (y.wide a c M room).nM = o.pN 0 := L.2.1
  have e3 : (allB (y.wide a c M room).nR fun i => inB ((y.wide a c M room).R i) 0 1073741824) = true := allB_t.2 (fun i hi => inB_t.2 (L.2.2.1 i hi))
  have e4 : (allB (y.wide a c M room).nM fun i => inB ((y.wide a c M room).M i) 0 8) = true := allB_t.2 (fun i hi => inB_t.2 (hM i hi))
  have e5 : inB (y.wide a c M room).lot 1 137438953472 = true := inB_t.2 L.2.2.2.2.1
  have e6 : inB (y.wide a c M room).room 0 1099511627776 = true := inB_t.2 hr
  rw [e3, e4, e5, e6, e1, e2]
  simp
end Go.Proofs.Ytdcpgjepgajioaa
