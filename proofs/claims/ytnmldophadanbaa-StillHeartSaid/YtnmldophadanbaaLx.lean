/- StillHeart: the walk of the law, all ways. No conditions beyond each theorem's own. -/
import Derived.Test.YtnmldophadanbaaLv
import Derived.Test.YtnmldophadanbaaLw
set_option linter.unusedVariables false
set_option linter.unusedSimpArgs false
set_option linter.unusedSectionVars false
set_option linter.constructorNameAsVariable false
namespace Go.Proofs.Ytnmldophadanbaa
open Go.RowKit

theorem heart_any (aL aV aM aY : Option Addr) (n m k cL cV cM ny cY : Nat) (L A B M Y : Nat → Int) (v lo hi f t : Int) (w : World) (hn : n ≤ 9223372036854775807) (hm : m ≤ 9223372036854775807) (hk : k ≤ 9223372036854775807) (hny : ny ≤ 9223372036854775807) (hL : IntsAt w aL n L) (hV : SpansAt w aV m A B) (hM : IntsAt w aM k M) (hY : NumsAt .u32 w aY ny Y) (hrY : ∀ i, i < ny → 0 ≤ Y i ∧ Y i ≤ 4294967295) :
    Calls Try.prog 9 #[.agg #[.slice aL n cL, .slice aV m cV], .agg #[.int .i64 v, .int .i64 lo, .int .i64 hi], .slice aM k cM, .int .i64 f, .int .i64 t, .slice aY ny cY] w (True1 w) := by
  cases h : longB n m k with
  | true => exact heartL_short aL aV aM aY n m k cL cV cM ny cY v lo hi f t w hn hm hk hny (.inl h)
  | false =>
    by_cases h0 : ny = 0
    · exact heartL_short aL aV aM aY n m k cL cV cM ny cY v lo hi f t w hn hm hk hny (.inr ⟨h, h0⟩)
    · by_cases hx : heartErr m ⟨n, L, A, B⟩ ⟨v, lo, hi⟩ M k f t = 0
      · by_cases hneg : heartB (Crv.outAt ⟨n, L, A, B⟩ ⟨v, lo, hi⟩ M) f.toNat t (k - f.toNat) < 0
        · exact heartL_ok0 aL aV aM aY m k cL cV cM ny cY ⟨n, L, A, B⟩ ⟨v, lo, hi⟩ M Y f t w h (by omega) hny hL hV hM hY hrY hx hneg
        · exact heartL_ok1 aL aV aM aY m k cL cV cM ny cY ⟨n, L, A, B⟩ ⟨v, lo, hi⟩ M Y f t w h (by omega) hny hL hV hM hY hrY hx (by omega)
      · exact heartL_err aL aV aM aY m k cL cV cM ny cY ⟨n, L, A, B⟩ ⟨v, lo, hi⟩ M f t w h (by omega) hny hL hV hM _ rfl hx
end Go.Proofs.Ytnmldophadanbaa
