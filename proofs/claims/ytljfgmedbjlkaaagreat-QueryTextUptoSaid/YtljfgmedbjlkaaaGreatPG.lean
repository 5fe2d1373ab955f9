/- Programs: rules, inputs, outputs, as data and in memory. -/
import Derived.Test.YtljfgmedbjlkaaaGreatSX
import Derived.Test.YtljfgmedbjlkaaaGreatVR
import Derived.Test.YtljfgmedbjlkaaaGreatProg
namespace Go.Proofs.YtljfgmedbjlkaaaGreat
open Go.RowKit Go.Eng Go.QP
structure Rx where
 hp:ByteArray
 ha:List Tm
 rows:List Rw
 ad:Option Addr
 c:Nat
 bd:Option Addr
 bc:Nat
structure Rl where
 hp:ByteArray
 ha:List Tm
 body:List Qlit
instance:Inhabited Rl:=⟨⟨ByteArray.empty,[],[]⟩⟩
instance:Inhabited Rx:=⟨⟨ByteArray.empty,[],[],none,0,none,0⟩⟩
def Rx.r (x:Rx):Rl:=⟨x.hp,x.ha,x.rows.map (·.1)⟩
abbrev eRu:En Rx:=⟨λx=>[.string x.hp,.slice x.ad x.ha.length x.c,.slice x.bd x.rows.length x.bc],3,λ_=>rfl,by decide,λ_=>rfl⟩
abbrev KW:=ByteArray × Int × ByteArray
abbrev MF:=ByteArray × Int
abbrev eIn:En KW:=⟨λx=>[.string x.1,.int .i64 x.2.1,.string x.2.2],3,λ_=>rfl,by decide,λ_=>rfl⟩
abbrev eOu:En MF:=⟨λx=>[.string x.1,.int .i64 x.2],2,λ_=>rfl,by decide,λ_=>rfl⟩
def RuM (h:Array Obj) (x:Rx):Prop:=Srm eT h x.ad x.ha.length x.c x.ha/\Lits h x.bd x.rows.length x.bc x.rows
theorem RuM.ext {w w':World} {x:Rx} (h:RuM w.heap x) (X:Ext w w'):RuM w'.heap x:=⟨h.1.ext X,h.2.ext X⟩
def bT (l:Qlit):List Tm:=if l.kind=1\/l.kind=2 then l.args else if l.kind=3 then [l.left,l.right] else []
theorem jg {l:Qlit} (h:l.kind=1\/l.kind=2):bT l=l.args:=if_pos h
theorem wG {l:Qlit} (h1:¬ (l.kind=1\/l.kind=2)) (h:l.kind=3):bT l=[l.left,l.right]:=by rw [bT,if_neg h1,if_pos h]
theorem mM {l:Qlit} (h1:¬ (l.kind=1\/l.kind=2)) (h:¬ l.kind=3):bT l=[]:=by rw [bT,if_neg h1,if_neg h]
def SI (x:Rx):Rw:=(⟨1,x.hp,x.ha,nA,nA⟩,(x.ad,x.c))
def yj (x:Rx) (j:Nat):Rw:=if j=0 then SI x else el x.rows (j-1)
def lj (r:Rl) (j:Nat):Qlit:=if j=0 then ⟨1,r.hp,r.ha,nA,nA⟩ else el r.body (j-1)
theorem fI {α β:Type} [Inhabited α] [Inhabited β] {f:α->β} {xs:List α} {i:Nat} (h:i<xs.length):el (xs.map f) i=f (el xs i):=by
 rw [aF (by rw [List.length_map];exact h),aF h,List.getElem_map]
theorem P4 {x:Rx} {j:Nat} (h:j<=x.rows.length):(yj x j).1=lj x.r j:=by
 unfold yj lj
 split
 .rfl
 .exact (fI (by omega)).symm
theorem RuM.yj {h:Array Obj} {x:Rx} (hr:RuM h x) {j:Nat} (hj:j<=x.rows.length):lY h (yj x j):=by
 unfold Go.Proofs.YtljfgmedbjlkaaaGreat.yj
 split
 .exact hr.1
 .exact hr.2.2 _ (by omega)
def dM (i:Int) (ts:List Tm):List (Int × ByteArray):=(ts.filter (·.1)).map λt=>(i,t.2)
def occP (r:Rl):Nat->List (Int × ByteArray)
 | 0=>[]
 | j+1=>occP r j++dM ((j:Int)-1) (bT (lj r j))
def fZ (r:Rl):List (Int × ByteArray):=occP r (r.body.length+1)
def nv (ts:List Tm) (q:Nat):Nat:=((ts.take q).filter (·.1)).length
theorem Co {ts:List Tm} {q:Nat} (h:q<ts.length):nv ts (q+1)=nv ts q+(if (el ts q).1=true then 1 else 0):=by
 unfold nv;rw [List.take_add_one,List.getElem?_eq_getElem h,Option.toList_some,List.filter_append,List.length_append,aF h]
 congr 1
 by_cases hv:ts[q].1=true
 .rw [if_pos hv,List.filter_cons_of_pos hv];rfl
 .rw [if_neg hv,List.filter_cons_of_neg hv];rfl
theorem JL {ts:List Tm} {i:Int}:nv ts ts.length=(dM i ts).length:=by
 unfold nv dM;rw [List.take_length,List.length_map]
theorem Kq {ts:List Tm} {i:Int} {q:Nat} (h:q<ts.length) (hv:(el ts q).1=true):nv ts q<(dM i ts).length/\el (dM i ts) (nv ts q)=(i,(el ts q).2):=by
 have e:dM i ts=dM i (ts.take q)++(i,(el ts q).2)::dM i (ts.drop (q+1)):=by
  unfold dM;rw [← List.map_cons (f:=λt:Tm=>(i,t.2)),← List.map_append]
  congr 1
  conv=>lhs;rw [← List.take_append_drop q ts,List.drop_eq_getElem_cons h]
  rw [List.filter_append,List.filter_cons_of_pos (by rw [← aF h];exact hv),aF h]
 have hl:(dM i (ts.take q)).length=nv ts q:=by unfold dM nv;rw [List.length_map]
 rw [e];refine ⟨by rw [List.length_append,List.length_cons,hl];omega,?_⟩;unfold el;rw [List.getD_eq_getElem?_getD,List.getElem?_append_right (by rw [hl];exact Nat.le_refl _),hl,Nat.sub_self];rfl
theorem Fx (r:Rl) {j n:Nat} (h:j<=n):∃ l,occP r n=occP r j++l:=by
 induction n with
 | zero=>rw [show j=0 by omega];exact ⟨[],by simp⟩
 | succ n ih=>
  by_cases e:j=n+1
  .subst e;exact ⟨[],by simp⟩
  .obtain ⟨l,hl⟩:=ih (by omega)
   exact ⟨l++dM ((n:Int)-1) (bT (lj r n)),by rw [occP,hl,List.append_assoc]⟩
theorem Iz {r:Rl} {j:Nat}:(occP r (j+1)).length=(occP r j).length+nv (bT (lj r j)) (bT (lj r j)).length:=by
 rw [occP,List.length_append,JL]
theorem Nx {r:Rl} {j q:Nat} (hj:j<=r.body.length) (hq:q<(bT (lj r j)).length) (hv:(el (bT (lj r j)) q).1=true) :
  (occP r j).length+nv (bT (lj r j)) q<(fZ r).length/\el (fZ r) ((occP r j).length+nv (bT (lj r j)) q)=((j:Int)-1,(el (bT (lj r j)) q).2):=by
 obtain ⟨l,hl⟩:=Fx r (j:=j+1) (n:=r.body.length+1) (by omega);obtain ⟨h1,h2⟩:=Kq (i:=(j:Int)-1) hq hv;have e:fZ r=occP r j++(dM ((j:Int)-1) (bT (lj r j))++l):=by rw [fZ,hl,occP,List.append_assoc]
 rw [e];refine ⟨by rw [List.length_append,List.length_append];omega,?_⟩;rw [← h2];unfold el;rw [List.getD_eq_getElem?_getD,List.getD_eq_getElem?_getD,List.getElem?_append_right (by omega),List.getElem?_append_left (by omega),Nat.add_sub_cancel_left]
instance memD (s:ByteArray) (l:List ByteArray):Decidable (s ∈ l):=@List.instDecidableMemOfLawfulBEq ByteArray instBEqOfDecidableEq inferInstance s l
def fH (l:List ByteArray) (s:ByteArray):List ByteArray:=if s ∈ l then l else l++[s]
def zJ (os:List (Int × ByteArray)):List ByteArray:=os.foldl (λl o=>fH l o.2) []
def bX (r:Rl):List ByteArray:=zJ (fZ r)
def inS (xs:List ByteArray) (f:ByteArray->Option Bool):Prop:=∀ y,f y=if y ∈ xs then some true else none
theorem inS.get {xs:List ByteArray} {f:ByteArray->Option Bool} (h:inS xs f) (y:ByteArray):(f y).getD false=true↔y ∈ xs:=by
 rw [h y];split <;> simp_all
theorem inS.nil:inS [] (λ_=>none):=λy=>by simp
theorem inS.put {xs:List ByteArray} {f:ByteArray->Option Bool} (h:inS xs f) (s:ByteArray):inS (xs++[s]) (λz=>if z=s then some true else f z):=λy=>by
 by_cases e:y=s
 .subst e;simp
 .show (if y=s then some true else f y)=_;rw [if_neg e,h y];simp [e]
structure VI (os:List (Int × ByteArray)) (k:Nat) (xs:List ByteArray) (f:ByteArray->Option Bool) (n:Nat):Prop where
 hx:xs=zJ (os.take k)
 hf:inS xs f
 hn:n<=k
theorem VI.start (os:List (Int × ByteArray)):VI os 0 [] (λ_=>none) 0:=⟨rfl,inS.nil,Nat.le_refl _⟩
theorem ou {os:List (Int × ByteArray)} {k:Nat} (h:k<os.length):zJ (os.take (k+1))=fH (zJ (os.take k)) (el os k).2:=by
 unfold zJ;rw [List.take_add_one,List.getElem?_eq_getElem h,Option.toList_some,List.foldl_append,aF h];rfl
section
variable {os:List (Int × ByteArray)} {k n:Nat} {xs:List ByteArray} {f:ByteArray->Option Bool}
theorem VI.len (h:VI os k xs f n):xs.length<=k:=by
 rw [h.hx]
 have:∀ (l:List (Int × ByteArray)) (a:List ByteArray),(l.foldl (λl o=>fH l o.2) a).length<=a.length+l.length:=by
  intro l
  induction l with
  | nil=>intro a;simp
  | cons o l ih=>
   intro a
   have h1:=ih (fH a o.2)
   have h2:(fH a o.2).length<=a.length+1:=by unfold fH;split <;> simp
   simp only [List.foldl_cons,List.length_cons];omega
 have h1:=this (os.take k) [];rw [List.length_take] at h1;unfold zJ;simp only [List.length_nil] at h1;omega
theorem VI.skip (h:VI os k xs f n) (hk:k<os.length) (hs:(f (el os k).2).getD false=true):VI os (k+1) xs f n:=
 ⟨by rw [ou hk,← h.hx];exact (if_pos ((h.hf.get _).1 hs)).symm,h.hf,Nat.le_succ_of_le h.hn⟩
theorem VI.add (h:VI os k xs f n) (hk:k<os.length) (hs:¬ (f (el os k).2).getD false=true):VI os (k+1) (xs++[(el os k).2]) (λz=>if z=(el os k).2 then some true else f z) (n+1):=
 ⟨by rw [ou hk,← h.hx];exact (if_neg (λe=>hs ((h.hf.get _).2 e))).symm,h.hf.put _,Nat.succ_le_succ h.hn⟩
theorem VI.fin (h:VI os os.length xs f n):xs=zJ os:=by rw [h.hx,List.take_length]
end
def OB (r:Rl):Prop:=(fZ r).length<=4398046511104/\∀ k,k<(fZ r).length->(el (fZ r) k).2.size<=1048576
def gO (b:List Qlit):List Qlit:=b.filter λl=>l.kind=1
def dx (r:Rl):List ByteArray:=bX ⟨ByteArray.empty,[],gO r.body⟩
def aQ (r:Rl):Option ByteArray:=((fZ r).find? λo=>decide (o.2 ∉ dx r)).map (·.2)
noncomputable abbrev KS:KE Tryz.prog 9 ByteArray:=R6 Tryz.underlying9
theorem eG {α:Type} [Inhabited α] {xs:List α} {i:Nat} (h:i<xs.length):xs.take (i+1)=xs.take i++[el xs i]:=by
 rw [List.take_add_one,List.getElem?_eq_getElem h,Option.toList_some,aF h]
theorem ak {α:Type} [Inhabited α] {xs:List α} {i:Nat} (h:i<xs.length):el xs i ∈ xs:=by rw [aF h];exact List.getElem_mem h
theorem aU {α:Type} [Inhabited α] {xs:List α} {x:α} (h:x ∈ xs):∃ i,i<xs.length/\el xs i=x:=by
 obtain ⟨i,hi,rfl⟩:=List.getElem_of_mem h;exact ⟨i,hi,aF hi⟩
def RuB (r:Rl):Prop:=r.hp.size<=1048576/\r.ha.length<=1048576/\(∀ t ∈ r.ha,t.2.size<=1048576)/\r.body.length<=1048576/\∀ l ∈ r.body,lZ l
theorem RuB.lj {r:Rl} (h:RuB r) {j:Nat} (hj:j<=r.body.length):(bT (lj r j)).length<=1048578/\∀ t ∈ bT (lj r j),t.2.size<=1048576:=by
 obtain ⟨h1,h2,h3,h4,h5⟩:=h;unfold Go.Proofs.YtljfgmedbjlkaaaGreat.lj
 split
 .rw [jg (.inl rfl)];exact ⟨Nat.le_trans h2 (by decide),h3⟩
 .have hb:=h5 _ (ak (xs:=r.body) (i:=j-1) (by omega));obtain ⟨b1,b2,b3,b4,b5⟩:=hb;unfold bT
  split
  .refine ⟨by omega,λt ht=>?_⟩;obtain ⟨i,hi,rfl⟩:=aU ht;exact b3 i hi
  split
  .refine ⟨by simp,λt ht=>?_⟩;simp only [List.mem_cons,List.not_mem_nil,or_false] at ht
   rcases ht with rfl | rfl
   .exact b4
   .exact b5
  .exact ⟨by simp,λt ht=>by cases ht⟩
theorem RuB.occP {r:Rl} (h:RuB r):∀ j,j<=r.body.length+1->(occP r j).length<=j * 1048578/\∀ o ∈ occP r j,o.2.size<=1048576
 | 0,_=>⟨by simp [Go.Proofs.YtljfgmedbjlkaaaGreat.occP],λo ho=>by simp [Go.Proofs.YtljfgmedbjlkaaaGreat.occP] at ho⟩
 | j+1,hj=>by
  obtain ⟨h1,h2⟩:=RuB.occP h j (by omega);obtain ⟨g1,g2⟩:=h.lj (j:=j) (by omega);rw [Go.Proofs.YtljfgmedbjlkaaaGreat.occP];refine ⟨?_,λo ho=>?_⟩
  .rw [List.length_append,dM,List.length_map];have:=List.length_filter_le (λt:Tm=>t.1) (bT (Go.Proofs.YtljfgmedbjlkaaaGreat.lj r j));omega
  .rcases List.mem_append.1 ho with ho | ho
   .exact h2 o ho
   .unfold dM at ho;obtain ⟨t,ht,rfl⟩:=List.mem_map.1 ho;exact g2 t ((List.mem_filter.1 ht).1)
theorem RuB.ob {r:Rl} (h:RuB r):OB r:=by
 obtain ⟨h1,h2⟩:=h.occP (r.body.length+1) (Nat.le_refl _);have h4:=h.2.2.2.1;refine ⟨?_,λk hk=>h2 _ (ak hk)⟩;unfold fZ;omega
theorem RuB.pos {r:Rl} (h:RuB r):RuB ⟨ByteArray.empty,[],gO r.body⟩:=by
 obtain ⟨h1,h2,h3,h4,h5⟩:=h;refine ⟨(by decide:ByteArray.empty.size<=1048576),(by decide:([]:List Tm).length<=1048576),λt ht=>(by cases ht),?_,λl hl=>h5 l ((List.mem_filter.1 hl).1)⟩;have:=List.length_filter_le (λl:Qlit=>decide (l.kind=1)) r.body;show (gO r.body).length<=_;unfold gO;omega
theorem Cs {os:List (Int × ByteArray)} {s:ByteArray}:s ∈ zJ os↔∃ o ∈ os,o.2=s:=by
 have:∀ (l:List (Int × ByteArray)) (a:List ByteArray),s ∈ l.foldl (λl o=>fH l o.2) a↔s ∈ a\/∃ o ∈ l,o.2=s:=by
  intro l
  induction l with
  | nil=>intro a;simp
  | cons o l ih=>
   intro a
   rw [List.foldl_cons,ih,fH]
   by_cases h:o.2 ∈ a
   .rw [if_pos h]
    constructor
    .rintro (h1 | ⟨x,hx,h1⟩)
     .exact .inl h1
     .exact .inr ⟨x,List.mem_cons_of_mem _ hx,h1⟩
    .rintro (h1 | ⟨x,hx,h1⟩)
     .exact .inl h1
     .rcases List.mem_cons.1 hx with rfl | hx
      .exact .inl (h1▸h)
      .exact .inr ⟨x,hx,h1⟩
   .rw [if_neg h]
    constructor
    .rintro (h1 | ⟨x,hx,h1⟩)
     .rcases List.mem_append.1 h1 with h1 | h1
      .exact .inl h1
      .rw [List.mem_singleton] at h1;exact .inr ⟨o,List.mem_cons_self ..,h1.symm⟩
     .exact .inr ⟨x,List.mem_cons_of_mem _ hx,h1⟩
    .rintro (h1 | ⟨x,hx,h1⟩)
     .exact .inl (List.mem_append_left _ h1)
     .rcases List.mem_cons.1 hx with rfl | hx
      .exact .inl (List.mem_append_right _ (List.mem_singleton.2 h1.symm))
      .exact .inr ⟨x,hx,h1⟩
 have h:=this os [];unfold zJ;rw [h];simp
theorem EG {r:Rl}:(bX r).length<=(fZ r).length:=by
 have h:=(VI.mk (os:=fZ r) (k:=(fZ r).length) (xs:=bX r) (f:=λy=>if y ∈ bX r then some true else none) (n:=0) (by rw [List.take_length];rfl) (λ_=>rfl) (Nat.zero_le _)).len;exact h
theorem OB.vars {r:Rl} (h:OB r):(bX r).length<=4398046511104/\∀ j,j<(bX r).length->(el (bX r) j).size<=1048576:=by
 refine ⟨Nat.le_trans EG h.1,λj hj=>?_⟩;obtain ⟨o,ho,e⟩:=Cs.1 (ak hj);obtain ⟨i,hi,rfl⟩:=aU ho;show (el (zJ (fZ r)) j).size<=_;rw [← e];exact h.2 i hi
theorem D5 {rows:List Rw}:gO (rows.map (·.1))=(rows.filter λx=>x.1.kind=1).map (·.1):=by
 unfold gO;rw [List.filter_map];rfl
theorem xX {r:Rl} (h:∀ q,q<(fZ r).length->(el (fZ r) q).2 ∈ dx r):aQ r=none:=by
 unfold aQ;rw [Option.map_eq_none_iff,List.find?_eq_none];intro o ho;obtain ⟨i,hi,rfl⟩:=aU ho
 simpa using h i hi
theorem xz {r:Rl} {k:Nat} (hk:k<(fZ r).length) (h:∀ q,q<k->(el (fZ r) q).2 ∈ dx r) (hn:(el (fZ r) k).2 ∉ dx r):aQ r=some (el (fZ r) k).2:=by
 have e:fZ r=(fZ r).take k++el (fZ r) k::(fZ r).drop (k+1):=by
  conv=>lhs;rw [← List.take_append_drop k (fZ r),List.drop_eq_getElem_cons hk]
  rw [aF hk]
 have h1:((fZ r).take k).find? (λo=>decide (o.2 ∉ dx r))=none:=by
  rw [List.find?_eq_none];intro o ho;obtain ⟨i,hi,rfl⟩:=aU ho;rw [List.length_take] at hi;have h2:=h i (by omega)
  have h3:el ((fZ r).take k) i=el (fZ r) i:=by
   unfold el;rw [List.getD_eq_getElem?_getD,List.getD_eq_getElem?_getD,List.getElem?_take_of_lt (by omega)]
  rw [h3]
  simpa using h2
 unfold aQ;rw [e,List.find?_append,h1,List.find?_cons_of_pos (by simpa using hn)]
 conv=>rhs;rw [← e]
 simp
structure Px where
 ins:List KW
 ia:Option Addr
 ic:Nat
 outs:List MF
 oa:Option Addr
 oc:Nat
 rules:List Rx
 ra:Option Addr
 rc:Nat
structure Pg where
 ins:List KW
 outs:List MF
 rules:List Rl
def Px.p (x:Px):Pg:=⟨x.ins,x.outs,x.rules.map Rx.r⟩
def Px.cells (x:Px):List Value:=[.slice x.ia x.ins.length x.ic,.slice x.oa x.outs.length x.oc,.slice x.ra x.rules.length x.rc]
def PxM (h:Array Obj) (x:Px):Prop:=Srm eIn h x.ia x.ins.length x.ic x.ins/\Srm eOu h x.oa x.outs.length x.oc x.outs/\Srm eRu h x.ra x.rules.length x.rc x.rules/\∀ i,i<x.rules.length->RuM h (el x.rules i)
theorem PxM.ext {w w':World} {x:Px} (h:PxM w.heap x) (X:Ext w w'):PxM w'.heap x:=⟨h.1.ext X,h.2.1.ext X,h.2.2.1.ext X,λi hi=>(h.2.2.2 i hi).ext X⟩
def PgB (p:Pg):Prop:=p.ins.length<=1048576/\p.outs.length<=1048576/\p.rules.length<=1048576/\(∀ x ∈ p.ins,x.1.size<=1048576/\x.2.2.size<=1048576)/\(∀ x ∈ p.outs,x.1.size<=1048576)/\∀ r ∈ p.rules,RuB r
theorem PgB.rule {x:Px} (h:PgB x.p) {i:Nat} (hi:i<x.rules.length):RuB (el x.rules i).r:=h.2.2.2.2.2 _ (List.mem_map.2 ⟨_,ak hi,rfl⟩)
def jx (p:Pg):Nat:=if p.rules.all (λr=>(aQ r).isNone) then 0 else 14
def Fs (low:Bool) (c:Nat):Prop:=if low then Sm c else Gr c
theorem bP (s:ByteArray):s.toList=(ByteArray.mk #[]).toList↔s.size=0:=by
 constructor
 .intro h;have:=aC h;rw [this];rfl
 .intro h;have:s=ByteArray.mk #[]:=ByteArray.ext (Array.eq_empty_of_size_eq_zero h);rw [this]
def WI (s:ByteArray) (low:Bool) (p:Nat):Prop:=p<=s.size/\(1<=p->Fs low (ch s 0))/\∀ j,j<p->1<=j->Go.QP.Lt (ch s j)
theorem WI.zero {s:ByteArray} {low:Bool}:WI s low 0:=⟨Nat.zero_le _,λh=>absurd h (by decide),λj h=>absurd h (Nat.not_lt_zero _)⟩
theorem Fs.lt {low:Bool} {c:Nat} (h:Fs low c):c<128:=by
 unfold Fs at h;cases low
 .rw [if_neg (by decide)] at h;unfold Gr at h;omega
 .rw [if_pos rfl] at h;unfold Sm at h;omega
theorem Lt.lt' {c:Nat} (h:Go.QP.Lt c):c<128:=by unfold Go.QP.Lt at h;omega
theorem WI.step {s:ByteArray} {low:Bool} {p:Nat} (h:WI s low p) (hp:p<s.size) (h0:p=0->Fs low (Utf8.decode s p).1) (h1:p≠0->Go.QP.Lt (Utf8.decode s p).1):WI s low (p+(Utf8.decode s p).2):=by
 have hl:(Utf8.decode s p).1<128:=by
  by_cases e:p=0
  .exact (h0 e).lt
  .exact Lt.lt' (h1 e)
 obtain ⟨_,hc,hw⟩ | ⟨_,hb,_⟩:=wL s p
 .rw [hc] at h0 h1;rw [hw];refine ⟨by omega,λ_=>?_,λj hj h2=>?_⟩
  .by_cases e:p=0
   .subst e;exact h0 rfl
   .exact h.2.1 (by omega)
  .by_cases e:j=p
   .subst e;exact h1 (by omega)
   .exact h.2.2 j (by omega) h2
 .omega
theorem WI.word {s:ByteArray} {low:Bool} {p:Nat} (h:WI s low p) (hp:¬ p<s.size) (h1:1<=s.size) (h2:s.size<=64):aO s low:=
 ⟨h1,h2,h.2.1 (by have:=h.1;omega),λj hj h3=>h.2.2 j (by omega) h3⟩
theorem WI.bad {s:ByteArray} {low:Bool} {p:Nat} (hp:p<s.size) (h:(p=0/\¬ Fs low (Utf8.decode s p).1)\/(p≠0/\¬ Go.QP.Lt (Utf8.decode s p).1)):¬ aO s low:=by
 intro hw
 have hl:ch s p<128:=by
  by_cases e:p=0
  .subst e;exact Fs.lt (low:=low) hw.2.2.1
  .exact Lt.lt' (hw.2.2.2 p hp (by omega))
 obtain ⟨_,hc,_⟩ | ⟨hb,_,_⟩:=wL s p
 .rw [hc] at h
  rcases h with ⟨rfl,h⟩ | ⟨e,h⟩
  .exact h hw.2.2.1
  .exact h (hw.2.2.2 p hp (by omega))
 .omega
instance (x:Tm):Decidable (kI x):=by unfold kI;exact inferInstance
instance (l:Qlit):Decidable (bm l):=by unfold bm;exact inferInstance
instance (p:ByteArray) (xs:List Tm):Decidable (rD p xs):=by unfold rD;exact inferInstance
theorem kH {α:Type} [Inhabited α] {xs:List α} {P:α->Prop} (h:∀ j,j<xs.length->P (el xs j)):∀ y ∈ xs,P y:=by
 intro y hy;obtain ⟨j,hj,rfl⟩:=aU hy;exact h j hj
theorem fQ (x:Tm):(decide (x.1=true),x.2)=((false,ByteArray.empty):Bool × ByteArray)↔x=nA:=by rw [Bool.decide_eq_true]
def pT (r:Rl):Prop:=rD r.hp r.ha/\r.body.length<=256/\∀ l ∈ r.body,bm l
instance (r:Rl):Decidable (pT r):=by unfold pT;exact inferInstance
theorem gX (z:Rx):pT z.r↔rD z.hp z.ha/\z.rows.length<=256/\∀ y ∈ z.rows,bm y.1:=by
 unfold pT Rx.r;simp only [List.length_map,List.mem_map,forall_exists_index,and_imp,forall_apply_eq_imp_iff₂]
end Go.Proofs.YtljfgmedbjlkaaaGreat
