/- A text appended onto a list of bytes. Over any program. -/
import Derived.Test.YtljfgmedbjlkaaaGreatV3
import Derived.Test.YtljfgmedbjlkaaaGreatLkS
import Derived.Test.YtljfgmedbjlkaaaGreatSNum
import Derived.Test.YtljfgmedbjlkaaaGreatLkR
import Derived.Laws.Runes
namespace Go.Eng
open Go.RowKit Go.Lk
section
variable {P:Program} {n:Nat} {σ:Nat→Value} {w:World} {ty t u:TypeId} {x y:Operand} {K:Value→World→Prop} {e k0 bb m c:Nat} {z:Value} {a:Option Addr} {s:ByteArray}
end
section
variable {P:Program} {n:Nat} {σ:Nat→Value} {S:Nat→Prop} {w0 w:World} {L:List Ch} {ty t u:TypeId} {x y:Operand} {K:Value→World→Prop} {e k0 bb m c:Nat} {z:Value} {a:Option Addr} {s:ByteArray} {xs:List Nat}
end
end Go.Eng
namespace Go.Eng
open Go.RowKit Go.Lk
section
variable {P:Program} {n:Nat} {σ:Nat→Value} {S:Nat→Prop} {w0 w:World} {L:List Ch} {ty t t':TypeId} {x:Operand} {K:Value→World→Prop} {e:Nat} {s:ByteArray}
variable {y:Operand}
end
end Go.Eng
