/- The element at a place, whatever the place. -/
namespace Go.Eng
def el {α:Type} [Inhabited α] (xs:List α) (i:Nat):α:=xs.getD i default
theorem el_eq {α:Type} [Inhabited α] {xs:List α} {i:Nat} (h:i<xs.length):el xs i=xs[i]:=by simp [el,List.getD_eq_getElem?_getD,h]
theorem el_get? {α:Type} [Inhabited α] {xs:List α} {i:Nat} (h:i<xs.length):xs[i]?=some (el xs i):=by rw [el_eq h];exact List.getElem?_eq_getElem h
end Go.Eng
