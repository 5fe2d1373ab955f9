/- Plain law: a question that is printed is read as itself. -/
import Derived.Test.YtljfgmedbjlkaaaGreatQA
namespace Go.QP
open Go.Eng
def kI (x:Tm):Prop:=(x.1=true/\kind x.2=2)\/(¬ x.1=true/\x.2.size<=1024)
def eF (x:Tm):List Nat:=if x.1=true then bl x.2 else if jl x.2 then bl x.2 else iI (bl x.2)
def fD (sep:List Nat):List (List Nat)->List Nat
 | []=>[]
 | [x]=>x
 | x::y::r=>x++sep++fD sep (y::r)
theorem jN (sep:List Nat):∀ l:List (List Nat),sep.intercalate l=fD sep l
 | []=>rfl
 | [x]=>by simp [List.intercalate,fD]
 | x::y::r=>by
  have:=jN sep (y::r);simp only [List.intercalate,List.intersperse,List.flatten_cons,fD] at this ⊢;rw [← this,List.append_assoc]
def iM (p:ByteArray) (xs:List Tm):List Nat:=if xs=[] then bl p else bl p++[40]++fD [44,32] (xs.map eF)++[41]
def iE (l:Qlit):List Nat:=if l.kind=3 then eF l.left++[32,33,61,32]++eF l.right else if l.kind=2 then [110,111,116,32]++iM l.pred l.args else iM l.pred l.args
def bm (l:Qlit):Prop:=((l.kind=1\/l.kind=2)/\kind l.pred=1/\l.args.length<=16/\(∀ x ∈ l.args,kI x)/\l.left=nA/\l.right=nA)\/(l.kind=3/\kI l.left/\kI l.right/\l.pred=ByteArray.empty/\l.args=[])
end Go.QP
namespace Go.QP
open Go.Eng
def xY (q:List Qlit):List Nat:=fD [44,32] (q.map iE)
end Go.QP
