/- Floating point of the model: what is no NaN, and the order. Seat-free. -/
import Ieee.Arith
namespace Go.Flt
open Ieee
abbrev D:Format:=Ieee.double
/-! the order -/
/-- a rung's magnitude, in units of the least place -/
def val (r:Nat):Nat:=if r<D.binade then r else (D.binade+r % D.binade) * 2 ^ (r / D.binade-1)
def sgn (x:Nat):Bool:=x / D.signWeight % 2 == 1
def rng (x:Nat):Nat:=x % D.signWeight
def key (x:Nat):Int:=if sgn x then -((rng x:Nat):Int) else ((rng x:Nat):Int)
def kv (x:Nat):Int:=if sgn x then -((val (rng x):Nat):Int) else ((val (rng x):Nat):Int)
end Go.Flt
