/- What the law's calls tell, given what is known of a question in form. -/
import Derived.Test.YtljfgmedbjlkaaaGreatQN
import Derived.Test.YtljfgmedbjlkaaaGreatHkB
import Derived.Test.YtljfgmedbjlkaaaGreatTQ
import Derived.Test.YtljfgmedbjlkaaaGreatQA
import Derived.Test.YtljfgmedbjlkaaaGreatV3
import Derived.Test.YtljfgmedbjlkaaaGreatSX
import Derived.Test.YtljfgmedbjlkaaaGreatQV
import Derived.Test.YtljfgmedbjlkaaaGreatProg
namespace Go.Proofs.YtljfgmedbjlkaaaGreat
open Go.RowKit Go.Eng Go.QP
theorem Le {a:Option Addr} {m c:Nat} {rows:List Rw} {w0:World} (hs:Lits w0.heap a m c rows) (hm:m<=1048576) (hb:∀ i,i<m->lZ (el rows i).1) :
  Calls Tryz.prog 12 #[.slice a m c] w0 λe w'=>∃ (t:ByteArray) (k:Nat),e= .returned (.tuple #[.string t,.int .i64 ((k:Nat):Int)])/\((k=0/\QG (rows.map (·.1))/\bl t=xY (rows.map (·.1))++[63])\/(k=2/\t=ByteArray.mk #[]/\¬ QG (rows.map (·.1))))/\Ext w0 w':=
 (O9 a m c rows w0 hs hm hb).mono λe w' h=>h.elim (λ⟨t,he,h1,h2,x⟩=>⟨t,0,he,.inl ⟨rfl,h1,h2⟩,x⟩) λ⟨he,h1,x⟩=>⟨_,2,he,.inr ⟨rfl,rfl,h1⟩,x⟩
end Go.Proofs.YtljfgmedbjlkaaaGreat
