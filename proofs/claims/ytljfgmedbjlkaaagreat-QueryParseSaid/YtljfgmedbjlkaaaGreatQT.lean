/- Plain law: a question that is printed is read as itself. -/
import Derived.Test.YtljfgmedbjlkaaaGreatQA
namespace Go.QP
open Go.Eng
theorem kind_rsv {s:ByteArray} (h:Rsv s):5≤kind s:=by
 rcases h with h | h | h <;> rw [bytes_ext h] <;> decide +kernel
end Go.QP
namespace Go.QP
open Go.Eng
theorem take0 (q:List Qlit) (now:Qlit) (k:Nat) (s:ByteArray):takeS ⟨q,0,now⟩ k s=if k=7 then some ⟨q,1,{ now with kind:=2 }⟩ else if k=1 then some ⟨q,2,{ now with pred:=s }⟩ else (termT k s).map fun x=>⟨q,6,⟨3,ByteArray.empty,[],x,Tm0⟩⟩:=rfl
theorem take4 (q:List Qlit) (now:Qlit) (k:Nat) (s:ByteArray):takeS ⟨q,4,now⟩ k s=(termT k s).map fun x=>⟨q,5,{ now with args:=now.args++[x] }⟩:=rfl
theorem take7 (q:List Qlit) (now:Qlit) (k:Nat) (s:ByteArray):takeS ⟨q,7,now⟩ k s=(termT k s).map fun x=>doneS ⟨q,7,{ now with right:=x }⟩:=rfl
end Go.QP
