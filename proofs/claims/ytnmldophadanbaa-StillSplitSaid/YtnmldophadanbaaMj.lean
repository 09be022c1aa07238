/- StillSplit: the walk of the law, all ways. No conditions beyond each theorem's own. -/
import Derived.Test.YtnmldophadanbaaMg
set_option linter.unusedVariables false
set_option linter.unusedSimpArgs false
set_option linter.unusedSectionVars false
set_option linter.constructorNameAsVariable false
namespace Go.Proofs.Ytnmldophadanbaa
open Go.RowKit

theorem split_any (aL aV aM : Option Addr) (n m k cL cV cM : Nat) (L A B M : Nat → Int) (v lo hi a : Int) (w : World) (hn : n ≤ 9223372036854775807) (hm : m ≤ 9223372036854775807) (hk : k ≤ 9223372036854775807) (hL : IntsAt w aL n L) (hV : SpansAt w aV m A B) (hM : IntsAt w aM k M) (hkc : k ≤ cM) (ha : 0 ≤ a ∧ a ≤ 255) :
    Calls Try.prog 6 #[.agg #[.slice aL n cL, .slice aV m cV], .agg #[.int .i64 v, .int .i64 lo, .int .i64 hi], .slice aM k cM, .int .u8 a] w (True1 w) := by
  cases h : longB n m k with
  | true => exact split_long aL aV aM n m k cL cV cM v lo hi a w hn hm hk h
  | false =>
    by_cases hx : runErr m ⟨n, L, A, B⟩ ⟨v, lo, hi⟩ M k = 0
    · exact split_ok aL aV aM m k cL cV cM ⟨n, L, A, B⟩ ⟨v, lo, hi⟩ M a w h hL hV hM hkc hx ha
    · exact split_err aL aV aM m k cL cV cM ⟨n, L, A, B⟩ ⟨v, lo, hi⟩ M a w h hL hV hM _ rfl hx
end Go.Proofs.Ytnmldophadanbaa
