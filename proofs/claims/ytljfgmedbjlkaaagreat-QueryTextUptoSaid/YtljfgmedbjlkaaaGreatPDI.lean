/- Copies of programs in memory of their own, with marks behind each list. -/
import Derived.Test.YtljfgmedbjlkaaaGreatPG
import Derived.Test.YtljfgmedbjlkaaaGreatQN
import Derived.Test.YtljfgmedbjlkaaaGreatVC
import Derived.Test.YtljfgmedbjlkaaaGreatPDH
namespace Go.Proofs.YtljfgmedbjlkaaaGreat
open Go.RowKit Go.Eng Go.QP
abbrev Ry:ByteArray:=ByteArray.mk #[109,97,114,107]
abbrev Dj:Tm:=(false,Ry)
abbrev PO:Rw:=(⟨77,ByteArray.mk #[],[],nA,nA⟩,(none,0))
abbrev JI:KW:=(Ry,0,ByteArray.mk #[])
abbrev JK:MF:=(Ry,0)
abbrev M7:Rx:=⟨Ry,[],[],none,0,none,0⟩
def AtK (h:Array Obj) (z:Rw):Prop:=Srm eT h z.2.1 (z.1.args.length+2) z.2.2 (z.1.args++[Dj,Dj])
def BodyK (h:Array Obj) (a:Option Addr) (c:Nat) (zs:List Rw):Prop:=Srm eL h a (zs.length+2) c (zs++[PO,PO])/\∀ z ∈ zs,AtK h z
def RuK (h:Array Obj) (x:Rx):Prop:=Srm eT h x.ad (x.ha.length+2) x.c (x.ha++[Dj,Dj])/\BodyK h x.bd x.bc x.rows
def PgK (h:Array Obj) (x:Px):Prop:=Srm eIn h x.ia (x.ins.length+2) x.ic (x.ins++[JI,JI])/\Srm eOu h x.oa (x.outs.length+2) x.oc (x.outs++[JK,JK])/\Srm eRu h x.ra (x.rules.length+2) x.rc (x.rules++[M7,M7])/\∀ r ∈ x.rules,RuK h r
theorem AtK.row {h:Array Obj} {z:Rw} (k:AtK h z):lY h z:=Srm.pre k rfl
theorem BodyK.lits {h:Array Obj} {a:Option Addr} {c:Nat} {zs:List Rw} (k:BodyK h a c zs):Lits h a zs.length c zs:=⟨Srm.pre k.1 rfl,λ_ hi=>(k.2 _ (ak hi)).row⟩
theorem RuK.ru {h:Array Obj} {x:Rx} (k:RuK h x):RuM h x:=⟨Srm.pre k.1 rfl,k.2.lits⟩
theorem PgK.px {h:Array Obj} {x:Px} (k:PgK h x):PxM h x:=⟨Srm.pre k.1 rfl,Srm.pre k.2.1 rfl,Srm.pre k.2.2.1 rfl,λ_ hi=>(k.2.2.2 _ (ak hi)).ru⟩
theorem BodyK.ext {w w':World} {a:Option Addr} {c:Nat} {zs:List Rw} (k:BodyK w.heap a c zs) (X:Ext w w'):BodyK w'.heap a c zs:=⟨k.1.ext X,λz hz=>Srm.ext (k.2 z hz) X⟩
theorem RuK.ext {w w':World} {x:Rx} (k:RuK w.heap x) (X:Ext w w'):RuK w'.heap x:=⟨k.1.ext X,k.2.ext X⟩
def ZsK (fz:Ch) (zs:List Rw):Prop:=∀ h,fz.says h->∀ z ∈ zs,AtK h z
theorem ZsK.nil {fz:Ch}:ZsK fz []:=λ_ _ _ h=>by cases h
theorem ZsK.push {fz d:Ch} {zs:List Rw} (hz:ZsK fz zs) {z:Rw} (hd:∀ h,d.says h->AtK h z):ZsK (cJ fz d) (zs++[z]):=λh hf x hx=>by
 rcases List.mem_append.1 hx with hx | hx
 .exact hz h hf.1 x hx
 .rw [List.mem_singleton] at hx;subst hx;exact hd h hf.2
def XsK (fz:Ch) (xs:List Rx):Prop:=∀ h,fz.says h->∀ x ∈ xs,RuK h x
theorem XsK.nil {fz:Ch}:XsK fz []:=λ_ _ _ h=>by cases h
theorem XsK.push {fz d:Ch} {zs:List Rx} (hz:XsK fz zs) {z:Rx} (hd:∀ h,d.says h->RuK h z):XsK (cJ fz d) (zs++[z]):=λh hf x hx=>by
 rcases List.mem_append.1 hx with hx | hx
 .exact hz h hf.1 x hx
 .rw [List.mem_singleton] at hx;subst hx;exact hd h hf.2
theorem kL {α β:Type} [Inhabited α] [Inhabited β] {f:α->β} {xs ys:List α} (h:xs.map f=ys.map f):xs.length=ys.length/\∀ i,i<xs.length->f (el xs i)=f (el ys i):=by
 have hl:xs.length=ys.length:=by have:=congrArg List.length h;rwa [List.length_map,List.length_map] at this
 refine ⟨hl,λi hi=>?_⟩;have h1:=congrArg (λl=>el l i) h;rwa [fI hi,fI (by omega)] at h1
theorem Rx.r_eq {x y:Rx} (h:x.r=y.r):x.hp=y.hp/\x.ha=y.ha/\x.rows.map (·.1)=y.rows.map (·.1):=by
 unfold Rx.r at h;injection h with h1 h2 h3;exact ⟨h1,h2,h3⟩
theorem Px.p_eq {x y:Px} (h:x.p=y.p):x.ins=y.ins/\x.outs=y.outs/\x.rules.map Rx.r=y.rules.map Rx.r:=by
 unfold Px.p at h;injection h with h1 h2 h3;exact ⟨h1,h2,h3⟩
abbrev Wd:=(Option Addr × Nat) × List ByteArray
abbrev eW:En Wd:=⟨λx=>[.slice x.1.1 x.2.length x.1.2],1,λ_=>rfl,by decide,λ_=>rfl⟩
def RwK (h:Array Obj) (w:Wd):Prop:=Srm eS h w.1.1 w.2.length w.1.2 w.2/\w.2.length<=1048576
abbrev PK:Wd:=((none,0),[])
theorem RwK.zero {h:Array Obj}:RwK h PK:=⟨⟨by simp [flat],none,0,rfl,Nat.le_refl _,by decide,.inl rfl⟩,Nat.zero_le _⟩
abbrev nX:=ByteArray × Int × (Option Addr × Nat) × List Wd
abbrev nQ:En nX:=⟨λx=>[.string x.1,.int .i64 x.2.1,.slice x.2.2.1.1 x.2.2.2.length x.2.2.1.2],3,λ_=>rfl,by decide,λ_=>rfl⟩
def Th (h:Array Obj) (r:nX):Prop:=Srm eW h r.2.2.1.1 r.2.2.2.length r.2.2.1.2 r.2.2.2/\∀ w ∈ r.2.2.2,RwK h w
def RsK (fz:Ch) (ws:List Wd):Prop:=∀ h,fz.says h->∀ w ∈ ws,RwK h w
theorem RsK.at {fz:Ch} {ws:List Wd} (hr:RsK fz ws) {h:Array Obj} (hf:fz.says h) {i:Nat} (hi:i<ws.length):Srm eS h (el ws i).1.1 (el ws i).2.length (el ws i).1.2 (el ws i).2:=(hr h hf _ (ak hi)).1
theorem RsK.nil {fz:Ch}:RsK fz []:=λ_ _ _ h=>by cases h
theorem RsK.push {fz:Ch} {ws:List Wd} (hr:RsK fz ws):RsK fz (ws++[PK]):=λh hf w hw=>by
 rcases List.mem_append.1 hw with hw | hw
 .exact hr h hf w hw
 .rw [List.mem_singleton] at hw;subst hw;exact RwK.zero
theorem RsK.set {fz:Ch} {ws:List Wd} (hr:RsK fz ws) {i j:Nat} (hj:j<ws.length):RsK fz (ws.set i (el ws j)):=λh hf w hw=>by
 rcases List.mem_or_eq_of_mem_set hw with hw | rfl
 .exact hr h hf w hw
 .exact hr h hf _ (ak hj)
theorem RsK.join {fz d:Ch} {ws:List Wd} (hr:RsK fz ws):RsK (cJ fz d) ws:=λh hf w hw=>hr h hf.1 w hw
theorem RsK.put {fz:Ch} {ws:List Wd} {T:TypeId} {a:Option Addr} {c:Nat} {ts:List ByteArray} (hr:RsK fz ws) (hl:ts.length<=1048576) {i:Nat}:RsK (cJ fz (cQ T eS a ts.length c ts)) (ws.set i ((a,c),ts)):=λh hf w hw=>by
 rcases List.mem_or_eq_of_mem_set hw with hw | rfl
 .exact hr h hf.1 w hw
 .exact ⟨cQ.sr hf.2,hl⟩
noncomputable def ig (T:TypeId) (ms:List nX):Nat->Ch:=λj=>cQ T eW (el ms j).2.2.1.1 (el ms j).2.2.2.length (el ms j).2.2.1.2 (el ms j).2.2.2
def MsK (fz:Ch) (ms:List nX):Prop:=∀ r ∈ ms,RsK fz r.2.2.2
theorem MsK.at {fz:Ch} {ms:List nX} (h:MsK fz ms) {i:Nat} (hi:i<ms.length):RsK fz (el ms i).2.2.2:=h _ (ak hi)
theorem NN {α:Type} [Inhabited α] {xs:List α} {i j:Nat} {u:α} (hj:j<xs.length):el (xs.set i u) j=if i=j then u else el xs j:=by
 rw [aF (by rw [List.length_set];exact hj),List.getElem_set,aF hj]
theorem Jt {T:TypeId} {ms:List nX} {i:Nat} {r:nX} (hi:i<ms.length):∀ j,j<ms.length->ins (ig T ms) i (cQ T eW r.2.2.1.1 r.2.2.2.length r.2.2.1.2 r.2.2.2) j=ig T (ms.set i r) j:=λj hj=>by
 unfold ig;rw [NN hj]
 by_cases e:i=j
 .subst e;rw [dN,if_pos rfl]
 .rw [aW (λq=>e q.symm),if_neg e]
def SameH (ms ns:List nX):Prop:=ms.map (λr=>(r.1,r.2.1))=ns.map (λr=>(r.1,r.2.1))
theorem SameH.set {ms ns:List nX} (h:SameH ms ns) {i:Nat} (hi:i<ms.length) {q:Option Addr × Nat} {ws:List Wd}:SameH (ms.set i ((el ms i).1,(el ms i).2.1,q,ws)) ns:=by
 unfold SameH at h ⊢;rw [← h,List.map_set];refine List.ext_getElem (by rw [List.length_set]) λk h1 h2=>?_;rw [List.getElem_set]
 split
 .rename_i e;subst e;rw [List.getElem_map,aF hi]
 .rfl
open Go.Sort Go.Lib
theorem yz {z:Rx} (h:pT z.r):∀ j,j<z.rows.length->(el z.rows j).1.kind=1\/(el z.rows j).1.kind=2\/(el z.rows j).1.kind=3:=λj hj=>by
 have:=(gX z).1 h
 rcases this.2.2 _ (ak hj) with ⟨h1 | h1,_⟩ | ⟨h1,_⟩
 .exact .inl h1
 .exact .inr (.inl h1)
 .exact .inr (.inr h1)
theorem Re {t:Tm} (h:kI t) (hv:t.1=true):t.2≠ByteArray.empty:=λe=>by
 rcases h with ⟨_,h⟩ | ⟨h,_⟩
 .have:=dV (s:=t.2) (by rw [h];decide);rw [e] at this;exact absurd this.1 (by decide)
 .exact h hv
theorem Mi {l:Qlit} (h:bm l):∀ t ∈ bT l,kI t:=λt ht=>by
 rcases h with ⟨h1,_,_,h4,_⟩ | ⟨h1,h2,h3,_⟩
 .rw [jg h1] at ht;exact h4 t ht
 .rw [wG (by omega) h1] at ht
  rcases List.mem_cons.1 ht with rfl | ht
  .exact h2
  .rw [List.mem_singleton] at ht;subst ht;exact h3
theorem Kz {i:Int} {ts:List Tm} (h:∀ t ∈ ts,kI t):∀ o ∈ dM i ts,o.2≠ByteArray.empty:=λo ho=>by
 unfold dM at ho;obtain ⟨t,ht,rfl⟩:=List.mem_map.1 ho;rw [List.mem_filter] at ht;exact Re (h t ht.1) ht.2
theorem C9 {r:Rl} (h:pT r):∀ {k:Nat},k<=r.body.length+1->∀ o ∈ occP r k,o.2≠ByteArray.empty
 | 0,_,o,ho=>by cases ho
 | k+1,hk,o,ho=>by
  rw [occP] at ho
  rcases List.mem_append.1 ho with ho | ho
  .exact C9 h (by omega) o ho
  .refine Kz ?_ o ho;unfold lj
   split
   .rw [jg (.inl rfl)];exact h.1.2.2
   .exact Mi (h.2.2 _ (ak (xs:=r.body) (i:=k-1) (by omega)))
theorem xS {r:Rl} (h:pT r):aQ r≠some ByteArray.empty:=λe=>by
 unfold aQ at e
 cases hf:(fZ r).find? λo=>decide (o.2 ∉ dx r) with
 | none=>rw [hf] at e;cases e
 | some o=>
  rw [hf] at e
  injection e with e
  exact C9 h (Nat.le_refl _) o (List.mem_of_find?_eq_some hf) e
theorem FmP.rule {x:Px} (h:FmP x.p) {i:Nat} (hi:i<x.rules.length):pT (el x.rules i).r:=h.2.2 _ (List.mem_map.2 ⟨_,ak hi,rfl⟩)
def RelH (ms:List nX) (rs:List Ro):Prop:=ms.map (λr=>(r.1,r.2.1))=rs.map (λr=>(r.1,r.2.1))
theorem RelH.len {ms:List nX} {rs:List Ro} (h:RelH ms rs):ms.length=rs.length:=by
 have:=congrArg List.length h;rwa [List.length_map,List.length_map] at this
theorem RelH.at {ms:List nX} {rs:List Ro} (h:RelH ms rs) {i:Nat} (hi:i<ms.length):(el ms i).1=(el rs i).1/\(el ms i).2.1=(el rs i).2.1:=by
 have hl:=h.len;have h1:=congrArg (λl=>l[i]?) h;simp only [List.getElem?_map,List.getElem?_eq_getElem hi,List.getElem?_eq_getElem (show i<rs.length by omega),Option.map_some,Option.some.injEq,Prod.mk.injEq] at h1;rw [aF hi,aF (by omega)];exact h1
theorem I1 {p:Pg} {rs:List Ro} {ms:List nX} (hr:RolesL p rs) (hm:RelH ms rs) {l:Qlit} (h:¬ l.kind=3) (hn:∀ r ∈ ms,r.1≠l.pred):j6 p l=some 400:=
 BZ hr h λr hr' e=>by
  obtain ⟨j,hj,rfl⟩:=aU hr';have hl:=hm.len;exact hn _ (ak (xs:=ms) (i:=j) (by omega)) ((hm.at (by omega)).1.trans e)
theorem rO {p:Pg} {rs:List Ro} {ms:List nX} (hr:RolesL p rs) (hm:RelH ms rs) {l:Qlit} (h:¬ l.kind=3) {j:Nat} (hj:j<ms.length) (hp:(el ms j).1=l.pred):j6 p l=if (el ms j).2.1≠(l.args.length:Int) then some 12 else none:=by
 have hl:=hm.len;have ha:=hm.at hj;rw [ha.2];exact qJ hr h (by omega) (ha.1.symm.trans hp)
theorem ChkQ.uniq {p:Pg} {q:List Qlit} {s t:ByteArray} {c d:Nat} (h:ChkQ p q s c) (k:ChkQ p q t d):s=t/\c=d:=by
 rcases h with ⟨h1,h2,h3⟩ | ⟨h1,h2,h3,h4⟩ | ⟨h1,h2,h3⟩ | ⟨h1,h2,h3,h4,h5⟩ | ⟨h1,h2,h3,h4,h5,h6⟩ <;> rcases k with ⟨k1,k2,k3⟩ | ⟨k1,k2,k3,k4⟩ | ⟨k1,k2,k3⟩ | ⟨k1,k2,k3,k4,k5⟩ | ⟨k1,k2,k3,k4,k5,k6⟩ <;> first
  | exact absurd h1 k1
  | exact absurd k1 h1
  | exact absurd h2 k2
  | exact absurd k2 h2
  | exact ⟨h2.trans k2.symm,h3.trans k3.symm⟩
  | exact ⟨h3.trans k3.symm,h4.trans k4.symm⟩
  | (rw [h3] at k3;injection k3 with k3;injection k3 with e1 e2;exact ⟨e1,e2⟩)
  | (rw [h3] at k3;cases k3;done)
  | (rw [h4] at k4;injection k4 with k4;exact ⟨k4,h5.trans k5.symm⟩)
  | (rw [h4] at k4;cases k4;done)
  | exact ⟨h5.trans k5.symm,h6.trans k6.symm⟩
end Go.Proofs.YtljfgmedbjlkaaaGreat
