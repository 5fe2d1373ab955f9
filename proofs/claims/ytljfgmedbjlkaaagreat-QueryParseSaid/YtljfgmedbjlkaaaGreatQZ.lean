/- What the law's calls tell, given what is known of a question in form. -/
import Derived.Test.YtljfgmedbjlkaaaGreatQN
import Derived.Test.YtljfgmedbjlkaaaGreatHkC
namespace Go.Proofs.YtljfgmedbjlkaaaGreat
open Go.RowKit Go.Eng Go.QP
theorem Same_yes {a b:Option Addr} {m c n d:Nat} {rows qs:List Rw} {w0:World} (hs:Lits w0.heap a m c rows) (hs2:Lits w0.heap b n d qs) (h:rows.map (·.1)=qs.map (·.1)) :
  Calls Tryz.prog 9 #[.slice a m c,.slice b n d] w0 fun e w'=>e= .returned (.bool true)∧Ext w0 w':=
 (SameBody9 a b m c n d rows qs w0 hs hs2).mono fun e w' ⟨r,he,hr,x⟩=>⟨by rw [he,hr.2 h],x⟩
end Go.Proofs.YtljfgmedbjlkaaaGreat
