/- strings.IndexByte at this program (the laying by the tools of the shelf). -/
import Derived.Shelf.Strings.Builder1
import Derived.Shelf.Strings.Builder2
import Derived.Shelf.Strings.OnBuilder
import Derived.Shelf.Small.Bits
import Derived.Shelf.Small.Strs
import Derived.Shelf.Strings.BuilderF
import Derived.Shelf.Strings.BuilderK
import Derived.Shelf.Strings.Builder2Cap
import Derived.Shelf.Strconv.Itoa0
import Derived.Shelf.Strings.Search1
import Derived.Shelf.Slices.Turned
import Derived.Shelf.Slices.Equal
import Derived.Ground.Names2Prog
import Derived.Shelf.Slices.Clone
import Derived.Shelf.Slices.Empties2
import Derived.Ground.SlgnProg
import Derived.Shelf.SlicesE.Clone
import Derived.Test.YtljfgmedbjlkaaaGreatProg
import Derived.Test.YtljfgmedbjlkaaaGreatQF
import Derived.Lib.IndexLaws
import Derived.Test.YtljfgmedbjlkaaaGreatVA
import Derived.Test.YtljfgmedbjlkaaaGreatTQ
import Derived.Test.YtljfgmedbjlkaaaGreatQA
import Derived.Test.YtljfgmedbjlkaaaGreatV3
import Derived.Test.YtljfgmedbjlkaaaGreatQV
import Derived.Test.YtljfgmedbjlkaaaGreatQT
namespace Go.Proofs
open Go.Shelf
end Go.Proofs
namespace Go.Proofs.YtljfgmedbjlkaaaGreat
open Go.RowKit Go.Eng Go.QP
section
variable {t:ByteArray} {r:RS} {tk:Tk}
def Tp (t:ByteArray) (r:RS):Prop:=((AO t).2.1.k=4/\¬ Hr r.at_ 4)\/(AO t).2.1.k=13\/((AO t).2.1.k=14/\r.at_≠2/\r.at_≠6)
instance (t:ByteArray) (r:RS):Decidable (Tp t r):=inferInstanceAs (Decidable (_\/_))
end
abbrev lY (h:Array Obj) (x:Rw):Prop:=Srm eT h x.2.1 x.1.args.length x.2.2 x.1.args
def Lits (h:Array Obj) (a:Option Addr) (m c:Nat) (rows:List Rw):Prop:=Srm eL h a m c rows/\∀ i,i<m->lY h (el rows i)
theorem Lits.ext {w w':World} {a:Option Addr} {m c:Nat} {rows:List Rw} (h:Lits w.heap a m c rows) (x:Ext w w'):Lits w'.heap a m c rows:=⟨h.1.ext x,λi hi=>(h.2 i hi).ext x⟩
def lZ (x:Qlit):Prop:=x.pred.size<=1048576/\x.args.length<=1048576/\(∀ j,j<x.args.length->(el x.args j).2.size<=1048576)/\x.left.2.size<=1048576/\x.right.2.size<=1048576
theorem TermR.text {v:Bool} {s t:ByteArray} (h:TermR v s t 0):bl t=eF (v,s):=by
 unfold eF
 rcases h with ⟨h1,_,_,rfl⟩ | ⟨_,h,_⟩ | ⟨h1,_,h2,_,rfl⟩ | ⟨h1,_,h2,_,h3⟩
 .rw [if_pos h1]
 .cases h
 .rw [if_neg h1,if_pos h2]
 .rw [if_neg h1,if_neg h2,h3]
theorem OutR.good {ts:List Tm} {m:Nat} {os:List ByteArray} (h:OutR ts m os) (hm:ts.length=m):(∀ x ∈ ts,kI x)/\os.map bl=ts.map eF:=by
 obtain ⟨h1,h2⟩:=h;refine ⟨λx hx=>?_,?_⟩
 .obtain ⟨j,hj,rfl⟩:=List.getElem_of_mem hx;have:=h2 j (by omega);rw [aF hj] at this;exact (this.good.resolve_right (λh=>by cases h.1)).2
 .apply List.ext_getElem
  .simp [h1,hm]
  .intro j hj1 hj2;rw [List.length_map] at hj1 hj2;have:=(h2 j (by omega)).text;rw [aF hj1,aF hj2] at this
   simpa using this
def rD (p:ByteArray) (xs:List Tm):Prop:=kind p=1/\xs.length<=16/\∀ y ∈ xs,kI y
theorem cU {x:Tm} (h:kI x):(eF x).length<=4098:=by
 have word:∀ s:ByteArray,kind s≠0->(bl s).length<=4098:=λs hk=>by have:=dV hk;rw [bN];omega
 unfold eF
 split
 .rename_i hv
  rcases h with ⟨_,h⟩ | ⟨h,_⟩
  .exact word _ (by rw [h];decide)
  .exact absurd hv h
 split
 .rename_i _ hb;exact word _ (by rcases hb with hb | hb <;> rw [hb] <;> decide)
 .rename_i hv _
  rcases h with ⟨h,_⟩ | ⟨_,h⟩
  .exact absurd h hv
  .have:=sQ (bl x.2);rw [bN] at this;omega
theorem u7 (s:List Nat) (A:Nat):∀ l:List (List Nat),(∀ x ∈ l,x.length<=A)->(fD s l).length<=l.length * (A+s.length):=λl h=>by
 rw [← jN];exact lD s A l h
theorem oZ {p:ByteArray} {xs:List Tm} (h:rD p xs):(iM p xs).length<=70000:=by
 obtain ⟨h1,h2,h3⟩:=h;have hp:=dV (s:=p) (by rw [h1];decide);have hj:=u7 [44,32] 4098 (xs.map eF) (λx hx=>by obtain ⟨y,hy,rfl⟩:=List.mem_map.1 hx;exact cU (h3 y hy));rw [List.length_map] at hj;have:xs.length * (4098+2)<=16 * 4100:=Nat.mul_le_mul h2 (Nat.le_refl _);simp only [List.length_cons,List.length_nil] at hj;unfold iM
 split
 .rw [bN];omega
 .simp only [List.length_append,List.length_cons,List.length_nil,bN];omega
theorem az {x:Qlit} (h:bm x) (hk:¬ x.kind=3):rD x.pred x.args/\x.left=nA/\x.right=nA/\(x.kind=1\/x.kind=2):=by
 rcases h with ⟨h1,h2,h3,h4,h5,h6⟩ | ⟨h1,_⟩
 .exact ⟨⟨h2,h3,h4⟩,h5,h6,h1⟩
 .exact absurd h1 hk
theorem jO {x:Qlit} (h:rD x.pred x.args) (h1:x.left=nA) (h2:x.right=nA) (hk:x.kind=1\/x.kind=2):bm x:=.inl ⟨hk,h.1,h.2.1,h.2.2,h1,h2⟩
theorem aG {x:Qlit} (h:bm x) (hk:x.kind=3):kI x.left/\kI x.right/\x.pred=ByteArray.empty/\x.args=[]:=by
 rcases h with ⟨h1,_⟩ | ⟨_,h⟩
 .omega
 .exact h
theorem rU {x:Qlit} (h:bm x):(iE x).length<=80000:=by
 unfold iE
 by_cases hk:x.kind=3
 .obtain ⟨h1,h2,_⟩:=aG h hk;have:=cU h1;have:=cU h2;rw [if_pos hk];simp only [List.length_append,List.length_cons,List.length_nil];omega
 .have:=oZ (az h hk).1;rw [if_neg hk]
  split
  .simp only [List.length_append,List.length_cons,List.length_nil];omega
  .omega
def QG (q:List Qlit):Prop:=q≠[]/\q.length<=256/\∀ x ∈ q,bm x
def OutL (rows:List Rw) (i:Nat) (os:List ByteArray):Prop:=os.length=i/\∀ j,j<i->bm (el rows j).1/\bl (el os j)=iE (el rows j).1
theorem OutL.nil (rows:List Rw):OutL rows 0 []:=⟨rfl,λ_ h=>absurd h (Nat.not_lt_zero _)⟩
theorem OutL.snoc {rows:List Rw} {i:Nat} {os:List ByteArray} {t:ByteArray} (h:OutL rows i os) (hg:bm (el rows i).1) (ht:bl t=iE (el rows i).1):OutL rows (i+1) (os++[t]):=by
 obtain ⟨h1,h2⟩:=h;refine ⟨by rw [List.length_append,h1];rfl,λj hj=>?_⟩
 by_cases hji:j=i
 .subst hji;rw [LH h1.symm];exact ⟨hg,ht⟩
 .have:el (os++[t]) j=el os j:=by
   rw [aF (by rw [List.length_append];omega),aF (show j<os.length by omega),List.getElem_append_left (by omega)]
  rw [this];exact h2 j (by omega)
theorem OutL.good {rows:List Rw} {m:Nat} {os:List ByteArray} (h:OutL rows m os) (hm:rows.length=m):(∀ x ∈ rows.map (·.1),bm x)/\os.map bl=(rows.map (·.1)).map iE:=by
 obtain ⟨h1,h2⟩:=h;refine ⟨λx hx=>?_,?_⟩
 .obtain ⟨y,hy,rfl⟩:=List.mem_map.1 hx;obtain ⟨j,hj,rfl⟩:=List.getElem_of_mem hy;have:=(h2 j (by omega)).1;rwa [aF hj] at this
 .apply List.ext_getElem
  .simp [h1,hm]
  .intro j hj1 hj2;simp only [List.length_map] at hj1 hj2;have:=(h2 j (by omega)).2;rw [aF hj1,aF hj2] at this
   simpa using this
theorem OutL.len {rows:List Rw} {m:Nat} {os:List ByteArray} (h:OutL rows m os) (hm:m<=256):((bl (ByteArray.mk #[44,32])).intercalate (os.map bl)).length<=100000000:=by
 obtain ⟨h1,h2⟩:=h
 have h3:=lD (bl (ByteArray.mk #[44,32])) 80000 (os.map bl) λx hx=>by
  obtain ⟨o,ho,rfl⟩:=List.mem_map.1 hx;obtain ⟨j,hj,rfl⟩:=List.getElem_of_mem ho;have:=h2 j (by omega);rw [aF hj] at this;rw [this.2];exact rU this.1
 rw [List.length_map,h1] at h3;have e:(bl (ByteArray.mk #[44,32])).length=2:=rfl;rw [e] at h3;have:m * (80000+2)<=256 * 80002:=Nat.mul_le_mul hm (Nat.le_refl _);omega
end Go.Proofs.YtljfgmedbjlkaaaGreat
