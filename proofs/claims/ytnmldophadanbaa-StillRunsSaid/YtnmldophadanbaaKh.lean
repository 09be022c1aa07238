/- Plain words: runs of a still. No conditions. -/
import Derived.Test.YtnmldophadanbaaKf
set_option linter.unusedVariables false
set_option linter.unusedSimpArgs false
set_option linter.unusedSectionVars false
set_option linter.constructorNameAsVariable false
namespace Go.Proofs.Ytnmldophadanbaa
open Go.RowKit

structure Crv where
  n : Nat
  L : Nat → Int
  A : Nat → Int
  B : Nat → Int
structure Pot3 where
  v : Int
  lo : Int
  hi : Int
structure Dr3 where
  d : Int
  lo : Int
  hi : Int

def Pot3.ok (p : Pot3) : Prop := 0 ≤ p.lo ∧ p.lo ≤ p.hi ∧ p.hi ≤ p.v ∧ p.v ≤ 1073741824
def Crv.most (c : Crv) (p : Pot3) (d : Int) : Int := min p.hi (upI (d * vapHi c.L c.B c.n (upI (p.hi * 10000) p.v)) 10000)
def Crv.stays (c : Crv) (p : Pot3) (d : Int) : Int := max 0 (p.lo - c.most p d)
def Crv.weak (c : Crv) (p : Pot3) (d : Int) : Int := min (p.lo * 10000 / p.v) (if p.v - d = 0 then 0 else c.stays p d * 10000 / (p.v - d))
def Crv.least (c : Crv) (p : Pot3) (d : Int) : Int := max (p.lo - (p.v - d)) (d * vapLo c.L c.A c.n (c.weak p d) / 10000)
def Crv.high (c : Crv) (p : Pot3) (d : Int) : Int := min (p.hi - c.least p d) (min (p.v - d) (upI (p.hi * (p.v - d)) p.v))
def Crv.out (c : Crv) (p : Pot3) (d : Int) : Dr3 := ⟨d, c.least p d, c.most p d⟩
def Crv.next (c : Crv) (p : Pot3) (d : Int) : Pot3 := ⟨p.v - d, c.stays p d, c.high p d⟩
/-- why an amount cannot be drawn; 0: it can -/
def errD (p : Pot3) (d : Int) : Int := if inB d 1 1073741824 then (if d ≤ p.v then 0 else 10) else 2

/-- the pot before amount j -/
def Crv.potAt (c : Crv) (p : Pot3) (M : Nat → Int) : Nat → Pot3
  | 0 => p
  | j + 1 => c.next (c.potAt p M j) (M j)
def Crv.outAt (c : Crv) (p : Pot3) (M : Nat → Int) (j : Nat) : Dr3 := c.out (c.potAt p M j) (M j)
def Crv.errAt (c : Crv) (p : Pot3) (M : Nat → Int) (j : Nat) : Int := errD (c.potAt p M j) (M j)

def Dr3.val (x : Dr3) : Value := .agg #[.int .i64 x.d, .int .i64 x.lo, .int .i64 x.hi]

theorem errD_zero {p : Pot3} {d : Int} (h : errD p d = 0) : inB d 1 1073741824 = true ∧ d ≤ p.v := by
  unfold errD at h
  split at h
  · rename_i h1
    split at h
    · rename_i h2; exact ⟨h1, h2⟩
    · omega
  · omega
theorem errD_cases (p : Pot3) (d : Int) : errD p d = 0 ∨ (errD p d = 2 ∧ inB d 1 1073741824 = false) ∨ (errD p d = 10 ∧ inB d 1 1073741824 = true ∧ p.v < d) := by
  unfold errD
  split
  · rename_i h1
    split
    · exact .inl rfl
    · rename_i h2; exact .inr (.inr ⟨rfl, h1, by omega⟩)
  · rename_i h1; exact .inr (.inl ⟨rfl, by simpa using h1⟩)

/-- a curve's box, and the points -/
def Crv.at (c : Crv) (w : World) (bc b off bv offv cL cV : Nat) : Prop := CurveAt w bc b off bv offv c.n cL cV c.L c.A c.B
end Go.Proofs.Ytnmldophadanbaa
