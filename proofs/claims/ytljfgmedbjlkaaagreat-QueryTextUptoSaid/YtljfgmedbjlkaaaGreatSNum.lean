/- Plain facts on sorting, merging, sets as sorted lists. No program. -/
import Derived.Test.YtljfgmedbjlkaaaGreatEA
import Derived.Test.YtljfgmedbjlkaaaGreatEB
namespace Go.OrdPure
open Go.Eng
variable {α:Type}
structure Lawful (c:α->α->Int):Prop where
 asym:∀ a b,c a b<0->0<c b a
 pos:∀ a b,0<c a b->c b a<0
 trans:∀ a b d,c a b<=0->c b d<=0->c a d<=0
variable {c:α->α->Int}
def ins (c:α->α->Int) (x:α):List α->List α
 | []=>[x]
 | y::ys=>if c x y<0 then x::y::ys else y::ins c x ys
def srt (c:α->α->Int) (xs:List α):List α:=xs.foldl (λacc x=>ins c x acc) []
@[simp] theorem Rz:srt c ([]:List α)=[]:=rfl
section
variable [Inhabited α]
end
end Go.OrdPure
namespace Go.Eng
open Go.RowKit Go.Flt
def bl (s:ByteArray):List Nat:=s.data.toList.map (·.toNat)
theorem bN (s:ByteArray):(bl s).length=s.size:=by unfold bl;rw [List.length_map,Array.length_toList];rfl
theorem MQ {s:ByteArray} {i:Nat} (h:i<s.size):el (bl s) i=ch s i:=by
 have h':i<s.data.toList.length:=by rw [Array.length_toList];exact h
 rw [aF (by rw [bN];exact h)];unfold bl ch;rw [List.getElem_map]
 congr 1
 cases s with
 | mk d=>
  show d.toList[i]=d[i]!
  have hd:i<d.size:=h
  rw [getElem!_pos d i hd];simp
theorem ef (a b:ByteArray):bl (a++b)=bl a++bl b:=by unfold bl;simp [ByteArray.data_append]
def S9 (b:Nat):Prop:=48<=b/\b<=57
instance (b:Nat):Decidable (S9 b):=inferInstanceAs (Decidable (_/\_))
end Go.Eng
