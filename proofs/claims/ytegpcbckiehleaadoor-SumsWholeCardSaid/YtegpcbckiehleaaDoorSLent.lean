/- Relations lent in new memory, a mark behind each list. Seat-free. -/
import Derived.Test.YtegpcbckiehleaaDoorSGr3
namespace Go.Eng
open Go.RowKit Go.OrdPure Go.Flt
def markT : ByteArray := ByteArray.mk #[109, 97, 114, 107]
/-- a row with its mark -/
def rw1 (x : Row) : Value := .slice x.1.1 (x.2.length + 1) x.1.2
structure RowsO (h : Array Obj) (lo : Nat) (M : List Row) : Prop where
  own : ∀ x ∈ M, x.2.length + 1 ≤ x.1.2 ∧ Own h lo 9 1 (rw1 x) (x.2.length + 1) (flat enS (x.2 ++ [markT]))
section
variable {w w' : World} {lo lo2 : Nat} {M : List Row} {row : Option Nat} {Kd : Nat}
theorem RowsO.nil (h : Array Obj) (lo : Nat) : RowsO h lo [] := ⟨fun _ hx => absurd hx (by simp)⟩
theorem RowsO.ext (h : RowsO w.heap lo M) (hx : Ext w w') : RowsO w'.heap lo M := ⟨fun x hm => ⟨(h.own x hm).1, (h.own x hm).2.ext hx⟩⟩
theorem RowsO.gk (h : RowsO w.heap lo M) (hg : w.grownBy w' row) (hr : RowK w.heap row Kd) (hK : 9 + 3 ≠ Kd) : RowsO w'.heap lo M := ⟨fun x hm => ⟨(h.own x hm).1, (h.own x hm).2.gk hg hr hK⟩⟩
theorem RowsO.below (h : RowsO w.heap lo M) : ∀ x ∈ M, ∀ k, (rw1 x).ownBlock = some k → k < w.heap.size := fun x hx k hk => ((h.own x hx).2.lt hk).2
theorem RowsO.grown (h : RowsO w.heap lo M) (hg : w.grownBy w' row) (hl : ∀ x ∈ M, ∀ k, (rw1 x).ownBlock = some k → k < lo2) (hr : ∀ k, row = some k → lo2 ≤ k) : RowsO w'.heap lo M :=
  ⟨fun x hm => ⟨(h.own x hm).1, (h.own x hm).2.grown hg fun b hb e => by have := hl x hm b hb; have := hr b e; omega⟩⟩
theorem RowsO.snoc {x : Row} (h : RowsO w.heap lo M) (hl : lo ≤ lo2) (hc : x.2.length + 1 ≤ x.1.2) (ho : Own w.heap lo2 9 1 (rw1 x) (x.2.length + 1) (flat enS (x.2 ++ [markT]))) : RowsO w.heap lo (M ++ [x]) :=
  ⟨fun y hy => by
    rcases List.mem_append.1 hy with hy | hy
    · exact h.own y hy
    · rw [List.mem_singleton] at hy; subst hy; exact ⟨hc, ho.weak hl⟩⟩
end
/-- what is lent, as whoever reads it finds it -/
structure Lent (h : Array Obj) (a : Option Addr) (c : Nat) (M : List Row) : Prop where
  cap : M.length + 1 ≤ c
  list : ∃ mr : Row, Src h (.slice a (M.length + 1) c) (M.length + 1) 1 (flat enR (M ++ [mr])) ∧ mr.2 = [markT] ∧ Src h (rv mr) 1 1 (flat enS [markT])
  rows : ∀ x ∈ M, x.2.length + 1 ≤ x.1.2 ∧ Src h (rw1 x) (x.2.length + 1) 1 (flat enS (x.2 ++ [markT]))
section
variable {w w' : World} {a : Option Addr} {c : Nat} {M : List Row}
theorem Lent.ext (h : Lent w.heap a c M) (hx : Ext w w') : Lent w'.heap a c M := by
  obtain ⟨mr, h1, h2, h3⟩ := h.list
  exact ⟨h.cap, ⟨mr, h1.ext hx, h2, h3.ext hx⟩, fun x hm => ⟨(h.rows x hm).1, (h.rows x hm).2.ext hx⟩⟩
theorem Lent.src (h : Lent w.heap a c M) : Src w.heap (.slice a M.length c) M.length 1 (flat enR M) := by
  obtain ⟨mr, h1, _, _⟩ := h.list
  have := h1.take enR_len (j := M.length) (by omega) (by simp)
  rwa [List.take_left'] at this
  rfl
theorem Lent.rowsP (h : Lent w.heap a c M) : RowsP w.heap M := fun x hx => by
  obtain ⟨_, h2⟩ := h.rows x hx
  have := Src.take enS_len (j := x.2.length) h2 (by omega) (by simp)
  rwa [List.take_left'] at this
  rfl
end
end Go.Eng
