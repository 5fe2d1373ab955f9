/- The question's reader in memory. -/
import Derived.Test.YtljfgmedbjlkaaaGreatTQ
import Derived.Test.YtljfgmedbjlkaaaGreatQA
import Derived.Test.YtljfgmedbjlkaaaGreatV3
import Derived.Test.YtljfgmedbjlkaaaGreatQV
import Derived.Test.YtljfgmedbjlkaaaGreatProg
import Derived.Test.YtljfgmedbjlkaaaGreatQE
namespace Go.Proofs.YtljfgmedbjlkaaaGreat
open Go.RowKit Go.Eng Go.QP
theorem T.sz9:SZ Tryz.prog 9 1:=λ_=>by kernel_rfl
theorem T.sz3:SZ Tryz.prog 3 1:=λ_=>by kernel_rfl
abbrev Rw:=Qlit × (Option Addr × Nat)
abbrev eL:En Rw:=⟨λx=>[.int .i64 x.1.kind,.string x.1.pred,.slice x.2.1 x.1.args.length x.2.2,.bool (decide (x.1.left.1=true)),.string x.1.left.2,.bool (decide (x.1.right.1=true)),.string x.1.right.2],7,λ_=>rfl,by decide,λ_=>rfl⟩
structure RM where
 rows:List Rw
 aq:Option Addr
 cq:Nat
 at_:Nat
 now:Rw
section
variable {S:Nat->Prop} {w0 w:World}
end
section
variable {x x':RM} {k:Nat} {s:ByteArray}
end
theorem T.sl23:SL Tryz.prog 23 37 7 96 (.agg #[vN 0,.string ByteArray.empty,.slice none 0 0,.bool false,.string ByteArray.empty,.bool false,.string ByteArray.empty]):=aY Tryz.underlying23 (by kernel_rfl) rfl (by decide)
theorem T.sz37:SZ Tryz.prog 37 7:=λ_=>by kernel_rfl
end Go.Proofs.YtljfgmedbjlkaaaGreat
