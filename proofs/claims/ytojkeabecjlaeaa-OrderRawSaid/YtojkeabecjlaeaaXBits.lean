/- Rows of Bools, written as a number. -/
import Derived.Test.YtojkeabecjlaeaaProg
namespace Go
def bl (n k : Nat) : Array Bool := ⟨(List.range n).map fun i => k.testBit i⟩
end Go
