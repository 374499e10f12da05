/- What the package order computes, as plain functions of lists. -/
import Derived.Test.YtojkeabecjlaeaaPx0
namespace Go.Proofs.Ytojkeabecjlaeaa.P
open Go.RowKit Go.Proofs.YtojkeabecjlaeaaW.PrintWords Go.Proofs.YtojkeabecjlaeaaW.PrintLast Go.Proofs.YtojkeabecjlaeaaW.PrintMore
set_option linter.unusedVariables false
/-- Does something come out of a channel? -/
def takesB (e : S24) : Bool := (e.f2 == 21 || e.f2 == 22) && e.f5 == 1
def goesB (e : S24) : Bool := e.f2 == 20 || takesB e
/-- Of a Send, or a taking: how many such of its channel are ahead of it. -/
def placeB (t : List S24) (i : Nat) : Int := if goesB (t.getD i z24) = true then (((t.take i).filter fun e => goesB e && takesB e == takesB (t.getD i z24) && e.f3 == (t.getD i z24).f3).length : Int) else 0
/-- The last Write or Bump of the event's atom ahead of it; -1: there is none. -/
def lastB : List S24 → Nat → Int → Nat → Int
  | _, 0, _, _ => -1
  | [], _, _, _ => -1
  | e :: t, n + 1, o, k => let r := lastB t n o (k + 1); if 0 ≤ r then r else if (e.f2 == 18 || e.f2 == 19) && e.f3 == o then (k : Int) else -1
def roomB (c : List Int) (o : Int) : Int := if o < 0 then 0 else if o ≥ (c.length : Int) then 0 else rd c o
/-- Is one event ahead of another one by one of the rules? -/
def directB (c : List Int) (t : List S24) (i j : Nat) : Bool :=
  let a := t.getD i z24
  let b := t.getD j z24
  if (a.f0 == b.f0 || a.f2 == 12 && a.f3 == b.f0) = true then true
  else a.f3 == b.f3 &&
    (a.f2 == 14 && (b.f2 == 13 || b.f2 == 15) || a.f2 == 16 && b.f2 == 13 || (b.f2 == 17 || b.f2 == 19) && lastB t j b.f3 0 == (i : Int)
     || a.f2 == 20 && takesB b && placeB t i == placeB t j || takesB a && b.f2 == 20 && wrap64 (placeB t i + roomB c a.f3) == placeB t j
     || a.f2 == 23 && (b.f2 == 21 || b.f2 == 22) && b.f5 == 2 || a.f2 == 24 && decide (a.f4 < 0) && b.f2 == 25 || a.f2 == 27 && b.f2 == 26 && b.f5 == 0)
/-- Marks of all that are ahead of j, from j - 1 down: m holds those of i, i + 1, .., j - 1. -/
def marksFrom (c : List Int) (t : List S24) (j : Nat) : Nat → List Bool
  | 0 => []
  | n + 1 => let m := marksFrom c t j n; let i := j - (n + 1)
    (directB c t i j || ((List.range n).any fun d => m.getD d false && directB c t i (i + 1 + d))) :: m
def marksB (c : List Int) (t : List S24) (j : Nat) : List Bool := marksFrom c t j j
def pastL (c : List Int) (t : List S24) (j : Int) : List Int :=
  if 0 ≤ j ∧ j < (t.length : Int) then (((List.range j.toNat).filter fun i => (marksB c t j.toNat).getD i false).map fun (i : Nat) => (i : Int)) else []
end Go.Proofs.Ytojkeabecjlaeaa.P
