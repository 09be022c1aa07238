/- StillLasts: the walk of the law. No conditions beyond each theorem's own. -/
import Derived.Test.YtnmldophadanbaaWq
import Derived.Test.YtnmldophadanbaaFb
set_option linter.unusedVariables false
set_option linter.unusedSimpArgs false
set_option linter.unusedSectionVars false
set_option linter.constructorNameAsVariable false
namespace Go.Proofs.Ytnmldophadanbaa
open Go.RowKit

attribute [local go_sem] gw_cell gw_frozen gw_size

theorem thru {w X w1 : World} (hb : Below X.heap.size X w1) (h : Below w.heap.size w X) : Below w.heap.size w w1 := h.trans (hb.mono h.size)

def True1 (w : World) (e : Ending) (w' : World) : Prop := e = .returned (.bool true) ∧ Below w.heap.size w w'

set_option maxRecDepth 100000 in
set_option maxHeartbeats 4000000 in
theorem lasts_err (tl th wl wh l : Int) (a : Option Addr) (n c : Nat) (w : World) (x : Int) (hE : wearErr tl th wl wh l = x) (hx : x ≠ 0) :
    Calls Try.prog 7 #[.agg #[.int .i64 tl, .int .i64 th], .agg #[.int .i64 wl, .int .i64 wh], .int .i64 l, .slice a n c] w (True1 w) := by
  have hW := wear_any tl th wl wh l (((w.alloc (.cells #[.int .i64 tl, .int .i64 th] 27)).alloc (.cells #[.int .i64 wl, .int .i64 wh] 27))) x hE
  rw [if_neg hx, if_neg hx] at hW
  have hc : x = 1 ∨ x = 2 ∨ (x = 12 ∧ tl < l) := by
    unfold wearErr at hE
    split at hE
    · split at hE
      · split at hE
        · rename_i h; exact .inr (.inr ⟨hE.symm, h⟩)
        · exact absurd hE.symm hx
      · exact .inr (.inl hE.symm)
    · exact .inl hE.symm
  have HW := Lib.hid (Calls.grown hW); clear hW hE hx
  rcases hc with rfl | rfl | ⟨rfl, hlt⟩
  all_goals
    go_enter Try.func7, Try.ntmps7
    go_wp2_with fail
    refine HW.out.mono ?_
    clear HW
    rintro e w1 ⟨rfl, y, rfl⟩
    go_wp2_with fail
    refine (alive_any _).mono ?_
    rintro e w1 ⟨rfl, hb⟩
    have HB := Lib.hid (thru hb ((((Below.refl _ w).alloc (Nat.le_refl _) _).alloc (by simp) _).gw y)); clear hb
    go_wp2_with fail
    go_ret
    exact ⟨rfl, HB.out⟩

/-- the runs, whatever they take -/
theorem lasts_num {tl th wl wh l : Int} (h1 : 0 ≤ wl) (h2 : wl ≤ wh) (h3 : tl ≤ th) (h4 : 0 ≤ l) (h5 : l ≤ tl) (h6 : th ≤ 1073741824) (h7 : wh ≤ 1073741824) :
    (wh = 0 ∧ wl = 0 ∧ runsI tl wh l = -1 ∧ runsI th wl l = -1) ∨
    (1 ≤ wh ∧ 0 ≤ runsI tl wh l ∧ runsI tl wh l ≤ 1073741824 ∧ 0 ≤ runsI tl wh l * wh ∧ l ≤ tl - runsI tl wh l * wh ∧ tl - (runsI tl wh l + 1) * wh < l ∧
      ((wl = 0 ∧ runsI th wl l = -1) ∨ (1 ≤ wl ∧ runsI tl wh l ≤ runsI th wl l ∧ 0 ≤ runsI th wl l ∧ runsI th wl l ≤ 1073741824 ∧ 0 ≤ runsI th wl l * wl ∧ l ≤ th - runsI th wl l * wl ∧ th - (runsI th wl l + 1) * wl < l))) := by
  have key : ∀ t w : Int, l ≤ t → t ≤ 1073741824 → 1 ≤ w → 0 ≤ (t - l) / w ∧ (t - l) / w ≤ 1073741824 ∧ 0 ≤ (t - l) / w * w ∧ l ≤ t - (t - l) / w * w ∧ t - ((t - l) / w + 1) * w < l := fun t w ht ht2 hw => by
    have a := Int.ediv_nonneg (show 0 ≤ t - l by omega) (show 0 ≤ w by omega)
    have b := Int.ediv_mul_le (t - l) (show w ≠ 0 by omega)
    have c := Int.lt_ediv_add_one_mul_self (t - l) (show 0 < w by omega)
    have d := Int.mul_nonneg a (show 0 ≤ w by omega)
    have e : (t - l) / w ≤ (t - l) / w * w := by
      have := Int.mul_le_mul_of_nonneg_left (show (1 : Int) ≤ w from hw) a
      omega
    exact ⟨a, by omega, d, by omega, by omega⟩
  by_cases hw : wh = 0
  · have : wl = 0 := by omega
    exact .inl ⟨hw, this, by unfold runsI; rw [if_pos hw], by unfold runsI; rw [if_pos this]⟩
  · right
    have e1 : runsI tl wh l = (tl - l) / wh := by unfold runsI; rw [if_neg hw]
    obtain ⟨k1, k2, k3, k4, k5⟩ := key tl wh h5 (by omega) (by omega)
    rw [e1]
    refine ⟨by omega, k1, k2, k3, k4, k5, ?_⟩
    by_cases hl : wl = 0
    · exact .inl ⟨hl, by unfold runsI; rw [if_pos hl]⟩
    · have e2 : runsI th wl l = (th - l) / wl := by unfold runsI; rw [if_neg hl]
      obtain ⟨q1, q2, q3, q4, q5⟩ := key th wl (by omega) h6 (by omega)
      rw [e2]
      refine .inr ⟨by omega, ?_, q1, q2, q3, q4, q5⟩
      have a1 : (tl - l) / wh ≤ (th - l) / wh := Int.ediv_le_ediv (by omega) (by omega)
      have a2 : (th - l) / wh ≤ (th - l) / wl := by
        refine Int.le_ediv_of_mul_le (by omega) ?_
        have b1 := Int.ediv_mul_le (th - l) (show wh ≠ 0 by omega)
        have b2 := Int.mul_le_mul_of_nonneg_left h2 (Int.ediv_nonneg (show 0 ≤ th - l by omega) (show 0 ≤ wh by omega))
        omega
      omega

/-- what is left of the copper before run i -/
def nowI (tl th wl wh : Int) (n : Nat) (Y : Nat → Int) : Nat → Int
  | 0 => innerI tl th (Y 0)
  | i + 1 => nowI tl th wl wh n Y i - innerI wl wh (Y (i % n))
theorem nowI_range {tl th wl wh : Int} {n : Nat} {Y : Nat → Int} (h2 : wl ≤ wh) (h3 : tl ≤ th) : ∀ i : Nat, tl - i * wh ≤ nowI tl th wl wh n Y i ∧ nowI tl th wl wh n Y i ≤ th - i * wl
  | 0 => by have := innerI_range (b := Y 0) h3; simpa [nowI] using this
  | i + 1 => by
    have ih := nowI_range (n := n) (Y := Y) h2 h3 i
    have := innerI_range (b := Y (i % n)) h2
    have e1 : ((i + 1 : Nat) : Int) * wh = i * wh + wh := by rw [Int.natCast_add, Int.add_mul]; simp
    have e2 : ((i + 1 : Nat) : Int) * wl = i * wl + wl := by rw [Int.natCast_add, Int.add_mul]; simp
    rw [e1, e2]
    unfold nowI
    omega
end Go.Proofs.Ytnmldophadanbaa
