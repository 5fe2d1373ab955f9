/- Plain law of a printed term: its size; when there is none. -/
import Derived.Test.YtljfgmedbjlkaaaGreatQA
import Derived.Test.YtljfgmedbjlkaaaGreatV3
import Derived.Test.YtljfgmedbjlkaaaGreatProg
import Derived.Test.YtljfgmedbjlkaaaGreatQC
import Derived.Test.YtljfgmedbjlkaaaGreatQB
namespace Go.Proofs.YtljfgmedbjlkaaaGreat
open Go.RowKit Go.Eng Go.QP
theorem T.sl120:SL Tryz.prog 120 5 1 1 (.int .u8 ((0:Nat):Int)):=sl_mk Tryz.underlying120 (by kernel_rfl) rfl (by decide)
end Go.Proofs.YtljfgmedbjlkaaaGreat
namespace Go.Proofs.YtljfgmedbjlkaaaGreat
open Go.RowKit Go.Eng Go.QP
end Go.Proofs.YtljfgmedbjlkaaaGreat
namespace Go.Proofs.YtljfgmedbjlkaaaGreat
open Go.RowKit Go.Eng Go.QP
theorem T.na4:NA Tryz.prog 4:=fun _=>by kernel_rfl
theorem T.na9:NA Tryz.prog 9:=fun _=>by kernel_rfl
end Go.Proofs.YtljfgmedbjlkaaaGreat
namespace Go.Proofs.YtljfgmedbjlkaaaGreat
open Go.RowKit Go.Eng Go.QP
end Go.Proofs.YtljfgmedbjlkaaaGreat
