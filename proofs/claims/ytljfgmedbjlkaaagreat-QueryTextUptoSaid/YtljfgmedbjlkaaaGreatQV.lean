/- Plain law: the lexer's steps. -/
import Derived.Test.YtljfgmedbjlkaaaGreatQA
import Derived.Test.YtljfgmedbjlkaaaGreatVA
namespace Go.QP
open Go.Eng
section
variable {t:ByteArray} {i R:Nat} {rm:Bool}
end
section
variable {t:ByteArray} {i:Nat} {b:List Nat} {R:List Nat × Nat × Bool}
end
section
variable {t:ByteArray} {i k:Nat}
end
section
variable {t:ByteArray} {i:Nat}
variable {R:List Tk × Tk × Nat} {n:Nat} {jt:Int} {xs:List Tk}
end
theorem LH {α:Type} [Inhabited α] {xs:List α} {u:α} {m:Nat} (h:m=xs.length):el (xs++[u]) m=u:=by
 subst h;rw [aF (by simp)];simp
end Go.QP
