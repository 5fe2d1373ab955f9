/- Heads of lists that are merged: their order, and its law. -/
import Derived.Test.YtgfolockecjlnaaRows1
import Derived.Test.YtgfolockecjlnaaPairs
import Derived.Test.YtgfolockecjlnaaFnsT
namespace Go.Proofs.Ytgfolockecjlnaa
open Go.RowKit Go.Eng Go.OrdPure Go.HeapPure
/-- a head: what it is, of which list, at which place -/
abbrev Hd := (Int × Int) × Fin 4294967296 × Nat
def enH (x : Hd) : List Value := [.int .i64 x.1.1, .int .i64 x.1.2, .int .i64 ((x.2.1.val : Nat) : Int), .int .i64 ((x.2.2 : Nat) : Int)]
theorem enH_len (x : Hd) : (enH x).length = 4 := rfl
def cmpH (x y : Hd) : Int := if byc x.1 y.1 = 0 then ((x.2.1.val : Nat) : Int) - ((y.2.1.val : Nat) : Int) else byc x.1 y.1
theorem cmpH_lt {x y : Hd} : cmpH x y < 0 ↔ x.1.1 < y.1.1 ∨ (x.1.1 = y.1.1 ∧ x.2.1.val < y.2.1.val) := by
  unfold cmpH
  have h1 := byc_lt (a := x.1) (b := y.1)
  have h2 := byc_zero (a := x.1) (b := y.1)
  split
  · rename_i h; have := h2.1 h; omega
  · rename_i h
    have : ¬ x.1.1 = y.1.1 := fun e => h (h2.2 e)
    rw [h1]; omega
theorem cmpH_zero {x y : Hd} : cmpH x y = 0 ↔ x.1.1 = y.1.1 ∧ x.2.1.val = y.2.1.val := by
  unfold cmpH
  have h2 := byc_zero (a := x.1) (b := y.1)
  split
  · rename_i h; have := h2.1 h; omega
  · rename_i h
    have : ¬ x.1.1 = y.1.1 := fun e => h (h2.2 e)
    constructor
    · intro h'; exact absurd h' h
    · intro h'; exact absurd h'.1 this
theorem cmpH_law : Lawful cmpH := by
  refine ⟨fun a b h => ?_, fun a b h => ?_, fun a b d h1 h2 => ?_⟩
  all_goals (try have q1 := cmpH_lt (x := a) (y := b)); (try have q2 := cmpH_zero (x := a) (y := b)); (try have q3 := cmpH_lt (x := b) (y := a)); (try have q4 := cmpH_zero (x := b) (y := a))
  · omega
  · omega
  · have q5 := cmpH_lt (x := b) (y := d)
    have q6 := cmpH_zero (x := b) (y := d)
    have q7 := cmpH_lt (x := a) (y := d)
    have q8 := cmpH_zero (x := a) (y := d)
    omega
end Go.Proofs.Ytgfolockecjlnaa
