/- StillColumn: the walk of the law, joined. No conditions beyond each theorem's own. -/
import Derived.Test.YtnmldophadanbaaLp
import Derived.Test.YtnmldophadanbaaLq
import Derived.Test.YtnmldophadanbaaLr
set_option linter.unusedVariables false
set_option linter.unusedSimpArgs false
set_option linter.unusedSectionVars false
set_option linter.constructorNameAsVariable false
namespace Go.Proofs.Ytnmldophadanbaa
open Go.RowKit

theorem column_any (aL aV aY : Option Addr) (n m cL cV ny cY : Nat) (L A B Y : Nat → Int) (s t mo : Int) (w : World) (hn : n ≤ 9223372036854775807) (hm : m ≤ 9223372036854775807) (hny : ny ≤ 9223372036854775807) (hL : IntsAt w aL n L) (hV : SpansAt w aV m A B) (hY : NumsAt .u32 w aY ny Y) (hr : ∀ i, i < ny → 0 ≤ Y i ∧ Y i ≤ 4294967295) (hmo : In64 mo) :
    Calls Try.prog 10 #[.agg #[.slice aL n cL, .slice aV m cV], .int .i64 s, .int .i64 t, .int .i64 mo, .slice aY ny cY] w (True1 w) := by
  cases h : longB n m 0 with
  | true => exact column_short aL aV aY n m cL cV ny cY s t mo w hn hm hny (.inl h)
  | false =>
    by_cases h0 : ny = 0
    · exact column_short aL aV aY n m cL cV ny cY s t mo w hn hm hny (.inr ⟨h, h0⟩)
    · by_cases hE : platesErr n m L A B s t = 0
      · obtain ⟨e1, e2, e3⟩ := plates_valid hE
        obtain ⟨em, g⟩ := good_of e1
        subst em
        have r2 := inB_t.1 e2
        have HI := reach_or (q := seqI (fun x => vapHi L B m x) s) (t := t) (fun i d => seq_rise (fun x hx => g.vapHi_range hx.1 hx.2) (fun x hx => Int.le_trans (g.vapLo_ge hx.1 hx.2) (g.lo_le_hi hx.1 hx.2)) r2.1 r2.2 i d)
        have LO := reach_or (q := seqI (fun x => vapLo L A m x) s) (t := t) (fun i d => seq_rise (fun x hx => g.vapLo_range hx.1 hx.2) (fun x hx => g.vapLo_ge hx.1 hx.2) r2.1 r2.2 i d)
        rcases HI with ⟨P, h1, r1⟩ | ⟨h1, r1⟩
        · rcases LO with ⟨S, h2, q2⟩ | ⟨h2, q2⟩
          · exact column_ok2 aL aV aY m cL cV ny cY L A B Y s t mo w hny h (by omega) hL hV hY hr hmo hE P S h1 r1 h2 q2
          · exact column_ok1 aL aV aY m cL cV ny cY L A B Y s t mo w hny h (by omega) hL hV hY hr hmo hE P h1 r1 h2 q2
        · exact column_ok0 aL aV aY m cL cV ny cY L A B Y s t mo w hny h (by omega) hL hV hY hr hmo hE _ h1 r1 ⟨rfl⟩
      · exact column_err aL aV aY n m cL cV ny cY L A B s t mo w hny h (by omega) hL hV _ rfl hE
end Go.Proofs.Ytnmldophadanbaa
