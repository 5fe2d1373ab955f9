/- Plain facts on sorting, merging, sets as sorted lists. No program. -/
import Derived.Test.YtljfgmedbjlkaaaGreatEl
import Derived.Test.YtljfgmedbjlkaaaGreatSOps
namespace Go.OrdPure
open Go.Eng
variable {α:Type}
/-- an order, as the chapter has it -/
structure Lawful (c:α→α→Int):Prop where
 asym:∀ a b,c a b<0→0<c b a
 pos:∀ a b,0<c a b→c b a<0
 trans:∀ a b d,c a b≤0→c b d≤0→c a d≤0
variable {c:α→α→Int}
/-- put behind those that it is not ahead of -/
def ins (c:α→α→Int) (x:α):List α→List α
 | []=>[x]
 | y::ys=>if c x y<0 then x::y::ys else y::ins c x ys
/-- sorted, alike ones as they stood -/
def srt (c:α→α→Int) (xs:List α):List α:=xs.foldl (fun acc x=>ins c x acc) []
@[simp] theorem srt_nil:srt c ([]:List α)=[]:=rfl
/-! ### a piece of a list -/
section
variable [Inhabited α]
end
end Go.OrdPure
namespace Go.Eng
open Go.RowKit Go.Flt
/-- a text's bytes as numbers -/
def bl (s:ByteArray):List Nat:=s.data.toList.map (·.toNat)
theorem bl_len (s:ByteArray):(bl s).length=s.size:=by unfold bl;rw [List.length_map,Array.length_toList];rfl
theorem bl_el {s:ByteArray} {i:Nat} (h:i<s.size):el (bl s) i=ch s i:=by
 have h':i<s.data.toList.length:=by rw [Array.length_toList];exact h
 rw [el_eq (by rw [bl_len];exact h)]
 unfold bl ch
 rw [List.getElem_map]
 congr 1
 cases s with
 | mk d=>
  show d.toList[i]=d[i]!
  have hd:i<d.size:=h
  rw [getElem!_pos d i hd];simp
theorem bl_append (a b:ByteArray):bl (a++b)=bl a++bl b:=by unfold bl;simp [ByteArray.data_append]
theorem bl_extract (s:ByteArray) (l h:Nat):bl (s.extract l h)=((bl s).drop l).take (h-l):=by
 unfold bl
 rw [ByteArray.data_extract,Array.toList_extract,List.extract,← List.map_drop,← List.map_take]
theorem size_extract (s:ByteArray) (l h:Nat):(s.extract l h).size=min h s.size-l:=by rw [← bl_len,bl_extract,List.length_take,List.length_drop,bl_len];omega
def dig (b:Nat):Prop:=48≤b∧b≤57
instance (b:Nat):Decidable (dig b):=inferInstanceAs (Decidable (_∧_))
/-- the number that bytes say, as its bits -/
def dot (l:List Nat):Nat:=l.findIdx (· == 46)
def back (l:List Nat):List Nat:=l.drop (dot l+1)
end Go.Eng
