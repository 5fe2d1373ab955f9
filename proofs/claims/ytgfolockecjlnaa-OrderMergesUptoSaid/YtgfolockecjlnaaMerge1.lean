/- What the walk over the merging needs of its lists. -/
import Derived.Test.YtgfolockecjlnaaMerge0
namespace Go.Eng
open Go.RowKit
theorem HeapR.grownT {w w' : World} {α : Type} {lo TH TE kE : Nat} {encE : α × Nat → List Value} {b : Nat} {g v : Value} {es : List (α × Nat)} {nx : Nat} {row : Value} {lo' : Nat} {T : TypeId} {k m : Nat} {cs : List Value} (hr : HeapR w.heap lo TH TE kE encE b g v es nx) (h : w.grownBy w' row.ownBlock) (ho : Own w.heap lo' T k row m cs) (h1 : TH ≠ T) (h2 : TE ≠ T) : HeapR w'.heap lo TH TE kE encE b g v es nx :=
  ⟨hr.ge, hr.blk.grown h (hr.blk.neO ho h1), hr.own.grownT h ho h2, hr.ne⟩
theorem HeapR.weak' {α : Type} {h : Array Obj} {lo lo' TH TE kE : Nat} {encE : α × Nat → List Value} {b : Nat} {g v : Value} {es : List (α × Nat)} {nx : Nat} (hr : HeapR h lo TH TE kE encE b g v es nx) (hl : lo' ≤ lo) : HeapR h lo' TH TE kE encE b g v es nx := ⟨Nat.le_trans hl hr.ge, hr.blk, hr.own.weak hl, hr.ne⟩
end Go.Eng
namespace Go.Proofs.Ytgfolockecjlnaa
open Go.RowKit Go.Eng Go.OrdPure Go.HeapPure
theorem one_first {ls : List Ts} {i : Nat} (h0 : 0 < (el ls i).length) (h : i < 4294967296) : one ls i (el ls i) = [(el (el ls i) 0, ⟨i, h⟩, 0)] := by
  generalize e : el ls i = l at *
  cases l with
  | nil => simp at h0
  | cons y t => rw [one, e, fin_eq h, List.length_cons, Nat.sub_self]; rfl
theorem one_next {ls : List Ts} {k p : Nat} {y : Int × Int} {t : Ts} (hd : y :: t = (el ls k).drop p) (hlt : p + 1 < (el ls k).length) (h : k < 4294967296) : one ls k t = [(el (el ls k) (p + 1), ⟨k, h⟩, p + 1)] := by
  have e : t = (el ls k).drop (p + 1) := by rw [← List.drop_drop, ← hd]; rfl
  rw [drop_el hlt] at e
  rw [e, one, fin_eq h, List.length_drop]
  have : (el ls k).length - ((el ls k).length - (p + 1 + 1) + 1) = p + 1 := by omega
  rw [this]
theorem el_flat_le {ls : List Ts} {k : Nat} (hk : k < ls.length) : (el ls k).length ≤ ls.flatten.length := by
  conv => rhs; rw [split_el hk]
  simp only [List.flatten_append, List.flatten_cons, List.length_append]
  omega
theorem map_snoc {es es' : List (Hd × Nat)} {z : Hd} {n : Nat} (h : es'.Perm (es ++ [(z, n)])) : (es'.map Prod.fst).Perm (es.map Prod.fst ++ [z]) := by simpa using h.map Prod.fst
theorem es_len {ls rs : List Ts} {es : List (Hd × Nat)} (h : (es.map Prod.fst).Perm (hds ls 0 rs)) : es.length ≤ rs.length := by
  have h1 := h.length_eq
  have h2 := hds_len ls rs 0
  rw [List.length_map] at h1
  omega
end Go.Proofs.Ytgfolockecjlnaa
