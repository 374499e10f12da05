/- What the package order computes, as plain functions of lists. -/
import Derived.Test.YtojkeabecjlaeaaPx0
namespace Go.Proofs.Ytojkeabecjlaeaa.P
open Go.RowKit Go.Proofs.YtojkeabecjlaeaaW.PrintWords Go.Proofs.YtojkeabecjlaeaaW.PrintLast Go.Proofs.YtojkeabecjlaeaaW.PrintMore
set_option linter.unusedVariables false
def takesB (e : S24) : Bool := (e.f2 == 21 || e.f2 == 22) && e.f5 == 1
def goesB (e : S24) : Bool := e.f2 == 20 || takesB e
def lastB : List S24 → Nat → Int → Nat → Int
  | _, 0, _, _ => -1
  | [], _, _, _ => -1
  | e :: t, n + 1, o, k => let r := lastB t n o (k + 1); if 0 ≤ r then r else if (e.f2 == 18 || e.f2 == 19) && e.f3 == o then (k : Int) else -1
def roomB (c : List Int) (o : Int) : Int := if o < 0 then 0 else if o ≥ (c.length : Int) then 0 else rd c o
end Go.Proofs.Ytojkeabecjlaeaa.P
