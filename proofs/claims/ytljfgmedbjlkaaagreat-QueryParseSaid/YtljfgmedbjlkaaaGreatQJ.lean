/- A part of the engine: steps over the model. Over any program. -/
import Derived.Test.YtljfgmedbjlkaaaGreatQA
import Derived.Test.YtljfgmedbjlkaaaGreatV3
import Derived.Test.YtljfgmedbjlkaaaGreatQI
import Derived.Test.YtljfgmedbjlkaaaGreatQV
import Derived.Test.YtljfgmedbjlkaaaGreatProg
namespace Go.Proofs.YtljfgmedbjlkaaaGreat
open Go.RowKit Go.Eng Go.QP
end Go.Proofs.YtljfgmedbjlkaaaGreat
namespace Go.Proofs.YtljfgmedbjlkaaaGreat
open Go.RowKit Go.Eng Go.QP
theorem T.fa37_2:FA Tryz.prog 37 2 3:=fun _ _=>by kernel_rfl
theorem T.eqT35:EQT Tryz.prog 35:=⟨⟨_,_,Tryz.underlying35,rfl,rfl,rfl,rfl,Tryz.underlying4,Tryz.underlying9⟩,by kernel_rfl,by kernel_rfl⟩
theorem T.na33:NA Tryz.prog 33:=fun _=>by kernel_rfl
theorem T.ag32:AG Tryz.prog 32 2:=fun _=>⟨by kernel_rfl,by kernel_rfl⟩
end Go.Proofs.YtljfgmedbjlkaaaGreat
