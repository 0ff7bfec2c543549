
/-
  Roots of unity in the field, for the twelve orders. No condition.
-/
import Derived.Test.YtpbfgmehdhdjdaaSer4
import Derived.Test.YtpbfgmehdhdjdaaSort
namespace Go.Proofs.Ytpbfgmehdhdjdaa
open Go Go.RowKit

def zN (x n : Nat) : Nat := x ^ (55440 / n) % 55441
def itN (z : Nat) : Nat → Nat
  | 0 => 1
  | k + 1 => itN z k * z % 55441
def odN (z : Nat) : Nat := ((List.range 13).find? fun d => decide (0 < d) && itN z d == 1).getD 0
def tblN (n : Nat) : Nat := [1, 1, 19, 5, 19, 2, 19, 2, 19, 5, 23, 2, 19].getD n 1
def lst (z : Nat) (m : Nat) : List Int := (List.range m).map fun i : Nat => (itN z i : Int)
def atp (l : List Int) (p : Int) : Nat := l.findIdx fun q => !decide (q < p)
def insS (l : List Int) (p : Int) : List Int := l.take (atp l p) ++ (p :: l.drop (atp l p))
def insL (z : Nat) : Nat → List Int
  | 0 => []
  | k + 1 => insS (insL z k) (itN z k)
def okX (n x : Nat) : Bool :=
  let z := zN x n
  let d := odN z
  decide (0 < d) && itN z d == 1 && (List.range d).all (fun i => i == 0 || itN z i != 1) && ((d == n) == (x == tblN n)) && decide (d ≤ n) && (List.range d).all (fun k => !(insL z k).contains (itN z k : Int)) && (d == n || (insL z d).contains (itN z d : Int))
def okAll : Bool := (List.range 13).all fun n => n == 0 || ((List.range (tblN n + 1)).all fun x => x == 0 || okX n x) && insL (zN (tblN n) n) n == srt (lst (zN (tblN n) n) n) (n - 1)
set_option maxRecDepth 100000 in
theorem okAll_true : okAll = true := by decide +kernel
end Go.Proofs.Ytpbfgmehdhdjdaa
