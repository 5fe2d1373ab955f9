/- A lean reckoner for closed runs: regions that draw their order, what they need. Over any program. -/
import Derived.Test.YtljfgmedbjlkaaaGreatLkS
import Derived.Test.YtljfgmedbjlkaaaGreatLkQ
namespace Go.Lk
open Go.Eng Go.RowKit
mutual
theorem Rv.fn' {ρ:Ren}:∀ (v:V) (x y:Value),Rv ρ v x->Rv ρ v y->x=y
 | .int ..,x,y,h,g | .bool _,x,y,h,g | .pnil,x,y,h,g | .snil,x,y,h,g | .fnil,x,y,h,g | .mnil,x,y,h,g | .inil,x,y,h,g | .flt _,x,y,h,g=>by simp only [Rv] at h g;rw [h,g]
 | .str _,x,y,h,g=>by
  simp only [Rv] at h g;obtain ⟨s,rfl,h⟩:=h;obtain ⟨s',rfl,g⟩:=g;rw [lC (h.trans g.symm)]
 | .ptr ..,x,y,h,g | .yield _,x,y,h,g | .map _,x,y,h,g=>by
  simp only [Rv] at h g;obtain ⟨L,hL,rfl⟩:=h;obtain ⟨L',hL',rfl⟩:=g;rw [hL] at hL';cases hL';rfl
 | .sl b i l c,x,y,h,g=>by
  simp only [Rv] at h g;obtain ⟨L,k,p,hL,rfl,h,_⟩:=h;obtain ⟨L',k',p',hL',rfl,g,_⟩:=g;rw [hL] at hL';cases hL'
  obtain ⟨rfl,rfl⟩:=h.fn g;rfl
 | .fn f a b,x,y,h,g=>by
  simp only [Rv] at h g;obtain ⟨a1,b1,rfl,h1,h2⟩:=h;obtain ⟨a2,b2,rfl,g1,g2⟩:=g;rw [Array.ext' (Rvs.fn' a _ _ h1 g1),Array.ext' (Rvs.fn' b _ _ h2 g2)]
 | .iface t v,x,y,h,g=>by
  simp only [Rv] at h g;obtain ⟨a,rfl,h⟩:=h;obtain ⟨b,rfl,g⟩:=g;rw [Rv.fn' v a b h g]
 | .agg l,x,y,h,g | .tup l,x,y,h,g=>by
  simp only [Rv] at h g;obtain ⟨a,rfl,h⟩:=h;obtain ⟨b,rfl,g⟩:=g;rw [Array.ext' (Rvs.fn' l _ _ h g)]
theorem Rvs.fn' {ρ:Ren}:∀ (l:List V) (xs ys:List Value),Rvs ρ l xs->Rvs ρ l ys->xs=ys
 | [],xs,ys,h,g=>by simp only [Rvs] at h g;rw [h,g]
 | v::l,xs,ys,h,g=>by
  simp only [Rvs] at h g;obtain ⟨x,r,rfl,h1,h2⟩:=h;obtain ⟨y,s,rfl,g1,g2⟩:=g;rw [Rv.fn' v x y h1 g1,Rvs.fn' l r s h2 g2]
end
section
variable {ρ:Ren} {Pr:Program} {m:Nat} {w:World} {σ:T V} {τ:Nat->Value} {h:T Blk} {n:P} {β:Type} {r:β}
theorem Rh.spare {b:World} {K:Nat->Option Obj} (H:Rh ⟨b,K⟩ ρ h n w) (o:Obj):Rh ⟨b,λc=>if c=w.heap.size then some o else K c⟩ ρ h n (w.alloc o):=by
 have hal:Al w (w.alloc o) o:=⟨rfl⟩;have hb:b.heap.size<=w.heap.size:=H.old.size;refine ⟨H.old.trans (hal.ext.mono hb),λc o' hk=>?_,λx B L hx hL=>?_,λx L hL=>?_,λx B L hx hL=>?_,H.apart⟩
 .simp only at hk
  split at hk
  .rename_i hc;cases hk;subst hc;exact hal.new
  .have h1:=H.kept c o' hk;rw [hal.old (Array.getElem?_eq_some_iff.1 h1).1];exact h1
 .have:=H.new x L hL;have hs:=H.safe x B L hx hL;simp only;rw [if_neg (by omega)];exact hs
 .have:=H.new x L hL;rw [hal.size];exact ⟨this.1,by omega,this.2.2⟩
 .have:=H.new x L hL;rw [hal.old this.2.1];exact H.live x B L hx hL
theorem Rh.adopt {b:World} {K:Nat->Option Obj} (H:Rh ⟨b,K⟩ ρ h n w) {c:Nat} {o:Obj} (hk:K c=some o) (hc:b.heap.size<=c) {L:Loc} (hL:L.c=c) {B:Blk} (hB:Rb (ρ.put n L) L (some o) B) :
  Rh ⟨b,λx=>if x=c then none else K x⟩ (ρ.put n L) (T.put (some B) n h) n.succ w:=by
 have hfree:=H.free;have hkept:=H.kept c o hk
 have other:∀ x X M,T.get x h=some X->ρ x=some M->M.c≠c:=λx X M hx hM e=>by
  have:=H.safe x X M hx hM;rw [e] at this;simp only at this;rw [hk] at this;cases this
 refine ⟨H.old,λx o' hx=>?_,λx X M hx hM=>?_,λx M hM=>?_,λx X M hx hM=>?_,λx y X Y M N hx hy hM hN hcc=>?_⟩
 .simp only at hx
  split at hx
  .cases hx
  .exact H.kept x o' hx
 .simp only
  split
  .rfl
  .rename_i hne;rw [T.get_put] at hx
   by_cases e:x=n
   .subst e;rw [Ren.put_same] at hM;cases hM
    exact absurd hL hne
   .rw [if_neg e] at hx;simp only [Ren.put,if_neg e] at hM;exact H.safe x X M hx hM
 .by_cases e:x=n
  .subst e;rw [Ren.put_same] at hM;cases hM
   rw [hL,P.num_succ];exact ⟨hc,(Array.getElem?_eq_some_iff.1 hkept).1,by omega⟩
  .simp only [Ren.put,if_neg e] at hM;have:=H.new x M hM;rw [P.num_succ];exact ⟨this.1,this.2.1,by omega⟩
 .rw [T.get_put] at hx
  by_cases e:x=n
  .subst e;rw [if_pos rfl] at hx;cases hx
   rw [Ren.put_same] at hM;cases hM
   rw [hL,hkept];exact hB
  .rw [if_neg e] at hx;simp only [Ren.put,if_neg e] at hM;exact (H.live x X M hx hM).mono (Ren.le_put hfree)
 .rw [T.get_put] at hx hy
  by_cases e1:x=n <;> by_cases e2:y=n
  .rw [e1,e2]
  .subst e1;rw [Ren.put_same] at hM;cases hM
   rw [if_neg e2] at hy;simp only [Ren.put,if_neg e2] at hN;exact absurd (hcc.symm.trans hL) (other y Y N hy hN)
  .subst e2;rw [Ren.put_same] at hN;cases hN
   rw [if_neg e1] at hx;simp only [Ren.put,if_neg e1] at hM;exact absurd (hcc.trans hL) (other x X M hx hM)
  .rw [if_neg e1] at hx;rw [if_neg e2] at hy;simp only [Ren.put,if_neg e1] at hM;simp only [Ren.put,if_neg e2] at hN;exact H.apart x y X Y M N hx hy hM hN hcc
theorem Rh.weak {b:World} {K K':Nat->Option Obj} (H:Rh ⟨b,K⟩ ρ h n w) (hk:∀ c o,K' c=some o->K c=some o):Rh ⟨b,K'⟩ ρ h n w:=
 ⟨H.old,λc o e=>H.kept c o (hk c o e),(λx B L hx hL=>by
  have:=H.safe x B L hx hL;simp only at this ⊢
  cases he:K' L.c with
  | none=>rfl
  | some o=>rw [hk _ _ he] at this;cases this),H.new,H.live,H.apart⟩
theorem JM {t:TypeId} {z:List V} (hz:zN Pr t=some z):∃ x,ZV Pr t x/\∀ ρ:Ren,Rvs ρ z x.cells.toList:=by
 unfold zN at hz;rw [ah] at hz;obtain ⟨v,hv,hz⟩:=hz;rw [dw] at hz;obtain ⟨ht,hz⟩:=hz;cases hz
 unfold pR at hv
 cases hi:Pr.info? t with
 | none=>rw [hi] at hv;cases hv
 | some i=>
  rw [hi] at hv
  cases hz:i.zero with
  | none=>simp [hz] at hv
  | some x=>
   simp [hz] at hv
   exact ⟨x,λw=>by simp [zeroValue,typeInfo,Sem.run_bind,hi,hz],λρ=>eV ((gK ρ 600).1 _ _ hv) ht⟩
theorem Jm {op:Op} (hq:qB op=true) (f:Fr ρ m σ τ) {n0:P} {a:Blk × V} (e:gP Pr op σ n0=some a) (ty:TypeId):∃ (obj:Obj) (xv:Nat->Value) (cap k:Nat),(∀ w,∀ dst pos af g,(execOp (ev m τ) ⟨dst,op,ty,pos,af,g⟩).run Pr w= .ok (.value (xv w.heap.size)) (w.alloc obj))/\
  ∀ n B v,gP Pr op σ n=some (B,v)->∀ ρ':Ren,∀ c,Rb ρ' ⟨c,0,cap,k⟩ (some obj) B/\(ρ' n=some ⟨c,0,cap,k⟩->Rv ρ' v (xv c)):=by
 cases op <;> first | (cases hq;done) | skip
 case alloc t=>
  cases hz:zN Pr t with
  | none=>
   replace e:(Option.rec (λ_ _ _ _ _=>none) (λz _ _ h n k=>eB (uo t z) (.ptr n 0 0) h n k) (zN Pr t):OX (Blk × V)) (λ_ _ _=>none) σ .e n0 (λv h _=>on (T.get n0 h) λB=>some (B,v))=some a:=e
   rw [hz] at e;cases e
  | some z=>
   obtain ⟨zv,hzv,hall⟩:=JM hz
   refine ⟨.cells zv.cells t (0,0),λc=>.pointer (some ⟨c,0,none⟩),1,z.length,λw _ _ _ _=>?_,λn B v e ρ' c=>?_⟩
   .have h:=hzv w
    simp [execOp,Instr.alloc,h,newVar,newRow,newObj,Sem.run]
   .replace e:(Option.rec (λ_ _ _ _ _=>none) (λz _ _ h n k=>eB (uo t z) (.ptr n 0 0) h n k) (zN Pr t):OX (Blk × V)) (λ_ _ _=>none) σ .e n (λv h _=>on (T.get n h) λB=>some (B,v))=some (B,v):=e
    rw [hz] at e
    replace e:on (T.get n (T.put (some (uo t z)) n .e)) (λB=>some (B,V.ptr n 0 0))=some (B,v):=e
    rw [T.get_put_same] at e
    cases e
    have hr:=hall ρ'
    have hR:=Rb.rows (ρ:=ρ') (c:=c) (t:=t) (rs:=[z]) (k:=z.length) (by simp) (by simpa using hr)
    refine ⟨?_,λhρ=>?_⟩
    .unfold uo;rw [bO];exact hR
    .simp only [Rv];exact ⟨_,hρ,by simp⟩
 case makeMap t rs=>
  cases rs with
  | some=>cases hq
  | none=>
   refine ⟨.map #[] 0,λc=>.map (some c),0,0,λw _ _ _ _=>by simp [execOp,Instr.makeMap,newObj,Sem.run],λn B v e ρ' c=>?_⟩
   replace e:on (T.get n (T.put (some (.map [] 0)) n .e)) (λB=>some (B,V.map n))=some (B,v):=e
   rw [T.get_put_same] at e
   cases e
   exact ⟨⟨#[],rfl,.nil,by simp⟩,λhρ=>by simp only [Rv];exact ⟨_,hρ,rfl⟩⟩
 case makeSlice t x y=>
  have key:∀ {n:P} {a:Blk × V},gP Pr (.makeSlice t x y) σ n=some a->gB Pr t x y (λ_ _ _=>none) σ .e n (λv h _=>on (T.get n h) λB=>some (B,v))=some a:=λe=>e
  have e:=key e
  unfold gB at e
  cases hB:jY Pr t with
  | none=>rw [hB] at e;cases e
  | some a'=>
   obtain ⟨el,kk,z⟩:=a'
   rw [hB] at e
   simp only at e
   simp only [ah,eQ,aj,jD] at e
   obtain ⟨_,hx,_,hy,kl,l,rfl,kc,c,rfl,h1,h2,h3,_⟩:=e
   have h1:=Nat.le_of_ble_eq_true h1
   have h2:=Nat.le_of_ble_eq_true h2
   have h3:Nat.mul (mQ Pr el) c<=281474976710656:=Nat.le_of_ble_eq_true h3
   obtain ⟨hu,hZ⟩:=iT hB
   obtain ⟨i,zr,hi,hz,hk,hpos,hzl,hzv⟩:=mT hZ
   simp only at hu hi hk hpos hzl hzv
   subst hk
   have hzs:zr.cells.size=i.size:=by have:=(hzv ρ).length;rw [Array.length_toList] at this;omega
   have hx':=av f hx
   have hy':=av f hy
   simp only [Rv] at hx' hy'
   have hby:mQ Pr el=i.bytes:=by unfold mQ;rw [hi]
   rw [hby] at h3
   have h3':(i.bytes:Int) * (c:Int)<=281474976710656:=by
    have:((i.bytes * c:Nat):Int)<=((281474976710656:Nat):Int):=Int.ofNat_le.2 h3;rw [Int.natCast_mul] at this;exact this
   refine ⟨.cells (madeCells zr.cells (c * i.size)) el (0,0),λb=>.slice (some ⟨b,0,none⟩) l c,c,i.size,λw _ _ _ _=>?_,λn B v e ρ' b=>?_⟩
   .have hrun:=run_make (P:=Pr) w t el i zr hu hi hz kl kc (l:Int) (c:Int) (by omega) (by omega) h3' (by omega)
    simp only [Int.toNat_natCast] at hrun
    have hx2:ev m τ x= .int kl (l:Int):=hx'
    have hy2:ev m τ y= .int kc (c:Int):=hy'
    simp only [execOp,hx2,hy2,Sem.run_bind,hrun,Result.andThen_ok,Sem.run_pure]
   .have e:=key e
    unfold gB at e
    rw [hB] at e
    simp only at e
    simp only [ah,eQ,aj,jD] at e
    obtain ⟨_,gx,_,gy,kl',l',rfl,kc',c',rfl,_,_,_,e⟩:=e
    rw [hx] at gx;cases gx
    rw [hy] at gy;cases gy
    replace e:on (T.get n (T.put (some (.rows el i.size false (List.replicate c z))) n .e)) (λB=>some (B,V.sl n 0 l (some c)))=some (B,v):=e
    rw [T.get_put_same] at e
    cases e
    have hR:=Rb.rows (ρ:=ρ') (c:=b) (t:=el) (rs:=List.replicate c z) (k:=i.size) (arr:=madeCells zr.cells (c * i.size)) (λr hr=>by rw [(List.mem_replicate.1 hr).2];exact hzl) (by rw [fP zr.cells c i.size hzs hpos];exact (hzv ρ').repeat c)
    rw [List.length_replicate] at hR
    refine ⟨hR,λhρ=>?_⟩
    simp only [Rv]
    exact ⟨_,c,0,hρ,by simp,PL.mkC,h1,by simp⟩
theorem km {l:List Nat} {x:Option β}:∀ {cs:List Rj},o5 l h x cs=some r->x=some r/\∀ c ∈ cs,c.1 ∈ l->c.2.1 h=some c.2.2
 | [],e=>⟨e,by simp⟩
 | (i,q,v)::cs,e=>by
  replace e:(Bool.rec (o5 l h x cs) (on (q h) λu=>Bool.rec none (o5 l h x cs) (sameV v u)) (qz i l):Option β)=some r:=e
  rw [fJ] at e
  rcases e with ⟨hm,e⟩ | ⟨hm,e⟩
  .rw [ah] at e;obtain ⟨u,hu,e⟩:=e;rw [aj] at e;obtain ⟨hs,e⟩:=e;have:=iF v u hs;subst this;obtain ⟨h1,h2⟩:=km e;refine ⟨h1,λc hc hcl=>?_⟩
   rcases List.mem_cons.1 hc with rfl | hc
   .exact hu
   .exact h2 c hc hcl
  .obtain ⟨h1,h2⟩:=km e;refine ⟨h1,λc hc hcl=>?_⟩
   rcases List.mem_cons.1 hc with rfl | hc
   .rw [nM] at hm;simp only at hcl;rw [List.contains_iff_mem.2 hcl] at hm;cases hm
   .exact h2 c hc hcl
theorem Ae {i:Nat} {f:(P->Option (Blk × V))->List x9->Option β} {pd:List x9} (e:rG i pd f=some r):∃ l1 l2 mk,pd=l1++(i,mk)::l2/\f mk (l1++l2)=some r:=by
 unfold rG at e
 have key:∀ (pd:List x9) (back:List x9->List x9),(List.rec (motive:=λ_=>(List x9->List x9)->Option β) (λ_=>none) (λp r ih back=>Prod.rec (λj mk=>Bool.rec (ih λm=>back (p::m)) (f mk (back r)) (Nat.beq j i)) p) pd back:Option β)=some r->∃ l1 l2 mk,pd=l1++(i,mk)::l2/\f mk (back (l1++l2))=some r:=by
  intro pd
  induction pd with
  | nil=>intro back e;cases e
  | cons p pd ih=>
   obtain ⟨j,mk⟩:=p
   intro back e
   replace e:(Bool.rec ((List.rec (motive:=λ_=>(List x9->List x9)->Option β) (λ_=>none) (λp r ih back=>Prod.rec (λj mk=>Bool.rec (ih λm=>back (p::m)) (f mk (back r)) (Nat.beq j i)) p) pd:(List x9->List x9)->Option β) λm=>back ((j,mk)::m)) (f mk (back pd)) (Nat.beq j i):Option β)=some r:=e
   rw [fJ] at e
   rcases e with ⟨hj,e1⟩ | ⟨hj,e1⟩
   .have:=Nat.eq_of_beq_eq_true hj
    subst this
    exact ⟨[],pd,mk,rfl,e1⟩
   .obtain ⟨l1,l2,mk',h1,h2⟩:=ih _ e1
    exact ⟨(j,mk)::l1,l2,mk',by rw [h1];rfl,h2⟩
 exact key pd _ e
theorem pX {ops:Array Oper} {o:Oper} {yes no:Option β} (f:Fr ρ m σ τ) {ds:List Deferred} (e:pF ops o σ yes no=some r) :
  (Region.wanted o (yielded ops (F m τ ds).tmps)=true/\yes=some r)\/(Region.wanted o (yielded ops (F m τ ds).tmps)=false/\no=some r):=by
 obtain ⟨dst,op,ty,pos,af,g⟩:=o
 cases g with
 | none=>exact .inl ⟨rfl,e⟩
 | some jb=>
  obtain ⟨j,b⟩:=jb
  replace e:(Option.rec none (λt=>on (T.get (aB t) σ) (V.onGuard (λc=>Bool.rec no yes (Bool.rec (dP c) c b)) no)) ((ops[j]?).bind (·.dst)):Option β)=some r:=e
  cases hj:(ops[j]?).bind (·.dst) with
  | none=>rw [hj] at e;cases e
  | some t=>
   rw [hj] at e
   replace e:on (T.get (aB t) σ) (V.onGuard (λc=>Bool.rec no yes (Bool.rec (dP c) c b)) no)=some r:=e
   rw [ah] at e
   obtain ⟨v,hv,e⟩:=e
   obtain ⟨hlt,hvr⟩:=f.get t v hv
   rw [oG] at e
   rcases e with ⟨c,rfl,e⟩ | ⟨l,rfl,e⟩
   .simp only [Rv] at hvr
    have hw:Region.wanted ⟨dst,op,ty,pos,af,some (j,b)⟩ (yielded ops (F m τ ds).tmps)=(c == b):=
     dX hj (by have:Nat.blt t m=true:=(by rw [Nat.blt_eq];exact hlt);simp only [ev,this,cond_true];exact hvr) hlt
    rw [hw]
    cases b <;> cases c <;> first | exact .inl ⟨rfl,e⟩ | exact .inr ⟨rfl,e⟩
   .simp only [Rv] at hvr
    obtain ⟨a,ha,_⟩:=hvr
    exact .inr ⟨sP hj ha hlt,e⟩
end
end Go.Lk
namespace Go.Lk
open Go.Eng Go.RowKit
structure Pn where
 i:Nat
 o:Oper
 dst:Nat
 mkB:P->Option (Blk × V)
 obj:Obj
 xv:Nat->Value
 cap:Nat
 k:Nat
 c:Option Nat
def Pn.abs (p:Pn):x9:=(p.i,p.mkB)
structure Cl where
 i:Nat
 ρ:Ren
 q:T Blk->Option V
 v:V
def Cl.abs (c:Cl):Rj:=(c.i,c.q,c.v)
def CS (ρ0:Ren) (q:T Blk->Option V) (v:V) (w:World):Prop:=∃ b ρ' h' n',ρ0.le ρ'/\Rh b ρ' h' n' w/\q h'=some v
def Cl.S (c:Cl):Nat × (World->Prop):=(c.i,CS c.ρ c.q c.v)
theorem CS.alloc {ρ0:Ren} {q:T Blk->Option V} {v:V} {w:World} (h:CS ρ0 q v w) (o:Obj):CS ρ0 q v (w.alloc o):=by
 obtain ⟨⟨b,K⟩,ρ',h',n',h1,h2,h3⟩:=h;exact ⟨_,ρ',h',n',h1,h2.spare o,h3⟩
def exP (pd:List Pn) (j:Nat):Bool:=pd.any λp=>p.i == j && p.c.isSome
def LE (pd:List Pn) (listed A:Array Bool):Prop:=A.size=listed.size/\∀ j,A[j]?=bif exP pd j then (listed[j]?).map (λ_=>true) else listed[j]?
theorem dC {A:Array Bool} {j:Nat}:A.getD j true=false↔A[j]?=some false:=by
 rw [Array.getD_eq_getD_getElem?]
 cases A[j]? with
 | none=>simp
 | some b=>simp
theorem fe {A:Array Bool} {j:Nat}:A.getD j false=true↔A[j]?=some true:=by
 rw [Array.getD_eq_getD_getElem?]
 cases A[j]? with
 | none=>simp
 | some b=>simp
section
variable {pd:List Pn} {l A:Array Bool} {j:Nat}
theorem LE.un (h:LE pd l A) (hj:A.getD j true=false):l.getD j true=false/\exP pd j=false:=by
 rw [dC] at hj ⊢;rw [h.2] at hj
 cases he:exP pd j with
 | true=>rw [he] at hj;cases hl:l[j]? <;> rw [hl] at hj <;> cases hj
 | false=>rw [he] at hj;exact ⟨hj,rfl⟩
theorem LE.un' (h:LE pd l A) (hj:l.getD j true=false) (he:exP pd j=false):A.getD j true=false:=by
 rw [dC] at hj ⊢;rw [h.2,he];exact hj
theorem LE.li (h:LE pd l A) (hj:l.getD j false=true):A.getD j false=true:=by
 rw [fe] at hj ⊢;rw [h.2,hj];cases exP pd j <;> rfl
theorem LE.li' (h:LE pd l A) (hj:A.getD j false=true):l.getD j false=true\/exP pd j=true/\(l[j]?).isSome=true:=by
 rw [fe] at hj ⊢;rw [h.2] at hj
 cases he:exP pd j with
 | true=>rw [he] at hj;cases hl:l[j]? with
  | none=>rw [hl] at hj;cases hj
  | some b=>exact .inr ⟨rfl,rfl⟩
 | false=>rw [he] at hj;exact .inl hj
theorem LE.set (h:LE pd l A) (i:Nat):LE pd (l.setIfInBounds i true) (A.setIfInBounds i true):=by
 refine ⟨by simp [h.1],λj=>?_⟩;rw [Array.getElem?_setIfInBounds,Array.getElem?_setIfInBounds,h.1]
 by_cases hij:i=j
 .rw [if_pos hij,if_pos hij]
  by_cases hs:i<l.size
  .rw [if_pos hs];cases exP pd j <;> rfl
  .rw [if_neg hs];cases exP pd j <;> rfl
 .rw [if_neg hij,if_neg hij];exact h.2 j
theorem ol:∀ (S:List Nat) (l:Array Bool),(mark S l).size=l.size/\∀ j,(mark S l)[j]?=bif S.contains j then (l[j]?).map (λ_=>true) else l[j]?
 | [],l=>⟨rfl,λj=>rfl⟩
 | i::S,l=>by
  obtain ⟨h1,h2⟩:=ol S (l.setIfInBounds i true);have e:mark (i::S) l=mark S (l.setIfInBounds i true):=rfl;rw [e];refine ⟨by rw [h1];simp,λj=>?_⟩;rw [h2,Array.getElem?_setIfInBounds,List.contains_cons]
  by_cases hij:i=j
  .subst hij;rw [if_pos rfl];simp only [beq_self_eq_true,Bool.true_or,cond_true]
   by_cases hs:i<l.size
   .rw [if_pos hs,Array.getElem?_eq_getElem hs];cases S.contains i <;> rfl
   .rw [if_neg hs,Array.getElem?_eq_none (by omega)];cases S.contains i <;> rfl
  .rw [if_neg hij];have:(j == i)=false:=by simp;exact λh=>hij h.symm
   rw [this,Bool.false_or]
theorem pY {ops:Array Oper} (h:LE pd l A) {S:List Nat} (hS:∀ p ∈ pd,p.c.isSome=true->p.i ∈ S) (hj:j ∈ Region.ready .any ops A):j ∈ S\/j ∈ Region.ready .any ops (mark S l):=by
 by_cases hjS:j ∈ S
 .exact .inl hjS
 refine .inr ?_;obtain ⟨h1,o,h2,h3⟩:=mem_ready.1 hj;obtain ⟨m1,m2⟩:=ol S l;refine mem_ready.2 ⟨?_,o,h2,λe he hb=>?_⟩
 .rw [dC,m2];have:S.contains j=false:=by rw [Bool.eq_false_iff];simp;exact hjS
  rw [this];exact dC.1 (h.un h1).1
 .rw [fe,m2]
  rcases h.li' (h3 e he hb) with g | ⟨g,gs⟩
  .rw [fe.1 g];cases S.contains e.on <;> rfl
  .unfold exP at g;rw [List.any_eq_true] at g;obtain ⟨p,hp,g⟩:=g;rw [Bool.and_eq_true] at g;have hi:p.i=e.on:=by simpa using g.1
   have:=hS p hp g.2;rw [hi] at this;have:S.contains e.on=true:=by simpa using this
   rw [this];obtain ⟨b,hb'⟩:=Option.isSome_iff_exists.1 gs;rw [hb'];rfl
theorem rR {ops:Array Oper} (h:LE pd l A) (hj:j ∈ Region.ready .any ops l) (he:exP pd j=false):j ∈ Region.ready .any ops A:=by
 obtain ⟨h1,o,h2,h3⟩:=mem_ready.1 hj;exact mem_ready.2 ⟨h.un' h1 he,o,h2,λe he hb=>h.li (h3 e he hb)⟩
end
def tp (dst:Option Nat) (x:Value) (τ:Nat->Value):Nat->Value:=match dst with
 | none=>τ
 | some d=>gT τ d x
theorem JC {m:Nat} {τ:Nat->Value} {ds:List Deferred} {dst:Option Nat} {x:Value}:(F m τ ds).put dst x=F m (tp dst x τ) ds:=by
 cases dst with
 | none=>rfl
 | some d=>exact fT ..
theorem Fr.tp {ρ:Ren} {m:Nat} {σ:T V} {τ:Nat->Value} (f:Fr ρ m σ τ) {v:V} {x:Value} (hv:Rv ρ v x) (dst:Option Nat):Fr ρ m (ep dst v σ) (tp dst x τ):=by
 cases dst with
 | none=>exact f
 | some d=>exact f.set hv d
theorem QA {dst:Option Nat} {x:Value} {τ:Nat->Value} {d:Nat} (h:dst≠some d):tp dst x τ d=τ d:=by
 cases dst with
 | none=>rfl
 | some e=>
  have:Nat.beq d e=false:=by cases hb:Nat.beq d e;rfl;exact absurd (congrArg some (Nat.eq_of_beq_eq_true hb).symm) h
  simp only [tp,gT,this,cond_false]
structure PnOK (Pr:Program) (ops:Array Oper) (m:Nat) (σ:T V) (τ:Nat->Value) (ds:List Deferred) (l:Array Bool) (p:Pn):Prop where
 hi:ops[p.i]?=some p.o
 hd:p.o.dst=some p.dst
 hg:p.o.guard=none
 lt:p.dst<m
 fr:∀ n B v,p.mkB n=some (B,v)->∀ ρ':Ren,∀ c,Rb ρ' ⟨c,0,p.cap,p.k⟩ (some p.obj) B/\(ρ' n=some ⟨c,0,p.cap,p.k⟩->Rv ρ' v (p.xv c))
 noσ:T.get (aB p.dst) σ=none
 un:l.getD p.i true=false
 rdy:∀ e ∈ p.o.after,Region.binds .any e=true->l.getD e.on false=true
 ap:∀ j oj,ops[j]?=some oj->j≠p.i->l.getD j true=false->(∀ e ∈ oj.after,Region.binds .any e=true->e.on≠p.i)->p.o.apart ops oj=true
 run:p.c=none->∀ w,(execOp (F m τ ds).eval p.o).run Pr w= .ok (.value (p.xv w.heap.size)) (w.alloc p.obj)
 ex:∀ c,p.c=some c->τ p.dst=p.xv c
 nq:dJ Pr p.o.op=false
theorem CR {l:Array Bool} {i j:Nat} (h:(l.setIfInBounds i true).getD j true=false):l.getD j true=false:=by
 by_cases hij:i=j
 .subst hij;rw [dC,Array.getElem?_setIfInBounds,if_pos rfl] at h
  split at h <;> cases h
 .rwa [getD_set_ne true hij] at h
theorem PnOK.step {Pr:Program} {ops:Array Oper} {m:Nat} {σ:T V} {τ:Nat->Value} {ds:List Deferred} {l:Array Bool} {p:Pn} (h:PnOK Pr ops m σ τ ds l p) (hsel:∀ (j:Nat) (o:Oper) cs b,ops[j]?=some o->o.op≠.select cs b) {i:Nat} {o:Oper} (hi:ops[i]?=some o) (hun:l.getD i true=false) (hne:i≠p.i)
  (hrd:∀ e ∈ o.after,Region.binds .any e=true->l.getD e.on false=true) (v:V) (x:Value):PnOK Pr ops m (ep o.dst v σ) (tp o.dst x τ) ds (l.setIfInBounds i true) p:=by
 have hno:∀ e ∈ o.after,Region.binds .any e=true->e.on≠p.i:=λe he hb heq=>by
  have h1:=hrd e he hb;rw [heq,fe] at h1;have h2:=dC.1 h.un;rw [h1] at h2;cases h2
 obtain ⟨a1,a2,a3⟩:=Oper.apart_spec (h.ap i o hi hne hun hno);have hdst:o.dst≠some p.dst:=a2 _ h.hd;refine ⟨h.hi,h.hd,h.hg,h.lt,h.fr,?_,by rw [getD_set_ne true hne];exact h.un,λe he hb=>getD_set_true (h.rdy e he hb),λj oj hj hji hjun hjno=>h.ap j oj hj hji (CR hjun) hjno,λhc w=>?_,λc hc=>?_,h.nq⟩
 .cases hd:o.dst with
  | none=>exact h.noσ
  | some d=>
   show T.get (aB p.dst) (T.set v (aB d) σ)=none
   rw [T.get_set,h.noσ]
   split <;> rfl
 .rw [← JC,execOp_put p.o (λcs b=>hsel _ _ cs b h.hi) _ o.dst x a3];exact h.run hc w
 .rw [QA hdst];exact h.ex c hc
def PnR (p q:Pn):Prop:=p.i≠q.i/\p.dst≠q.dst/\∀ c,p.c=some c->q.c≠some c
theorem PnR.symm {p q:Pn} (h:PnR p q):PnR q p:=⟨h.1.symm,h.2.1.symm,λc h1 h2=>h.2.2 c h2 h1⟩
structure IV (Pr:Program) (ops:Array Oper) (m:Nat) (w0:Base) (K:Nat->Option Obj) (ρ:Ren) (σ:T V) (τ:Nat->Value) (ds:List D) (dsr:List Deferred) (h:T Blk) (n:P) (w:World) (l A:Array Bool) (opn qs:List Nat) (cs:List Cl) (pd:List Pn):Prop where
 fr:Fr ρ m σ τ
 df:All2 (Rd ρ) ds dsr
 cls:Closed ops A
 le:LE pd l A
 cl:∀ c ∈ cs,c.ρ.le ρ/\((∀ h,c.q h=some c.v)\/c.i ∈ qs)
 hp:Rh ⟨w0.w,K⟩ ρ h n w
 k0:∀ c o,w0.keep c=some o->K c=some o
 kp:∀ p ∈ pd,∀ c,p.c=some c->K c=some p.obj/\w0.keep c=none/\w0.w.heap.size<=c
 pn:∀ p ∈ pd,PnOK Pr ops m σ τ dsr l p
 pw:pd.Pairwise PnR
 op:∀ i,i ∈ opn↔∃ p ∈ pd,p.i=i
section
variable {Pr:Program} {ops:Array Oper} {m:Nat} {w0:Base} {K:Nat->Option Obj} {ρ:Ren} {σ:T V} {τ:Nat->Value} {ds:List D} {dsr:List Deferred} {h:T Blk} {n:P} {w:World} {l A:Array Bool} {opn qs:List Nat} {cs:List Cl} {pd:List Pn}
theorem Ps {p:Pn} (hp:p ∈ pd) {j:Nat} (hi:p.i=j) (hc:p.c.isSome=true):exP pd j=true:=by
 unfold exP;rw [List.any_eq_true];exact ⟨p,hp,by simp [hi,hc]⟩
theorem IV.notex (iv:IV Pr ops m w0 K ρ σ τ ds dsr h n w l A opn qs cs pd) {i:Nat} (hno:i ∉ opn):exP pd i=false:=by
 rw [Bool.eq_false_iff];intro he;unfold exP at he;rw [List.any_eq_true] at he;obtain ⟨p,hp,he⟩:=he;rw [Bool.and_eq_true] at he;exact hno ((iv.op i).2 ⟨p,hp,by simpa using he.1⟩)
theorem IV.step (iv:IV Pr ops m w0 K ρ σ τ ds dsr h n w l A opn qs cs pd) (hsel:∀ (j:Nat) (o:Oper) cs b,ops[j]?=some o->o.op≠.select cs b) {i:Nat} {o:Oper} (hi:ops[i]?=some o) (hr:i ∈ Region.ready .any ops l) (hno:i ∉ opn)
  {ρ':Ren} {v:V} {x:Value} {h':T Blk} {n':P} {w':World} (hle:ρ.le ρ') (hv:Rv ρ' v x) (H:Rh ⟨w0.w,K⟩ ρ' h' n' w') {qs':List Nat} (hqs:∀ j ∈ qs,j ∈ qs') :
  IV Pr ops m w0 K ρ' (ep o.dst v σ) (tp o.dst x τ) ds dsr h' n' w' (l.setIfInBounds i true) (A.setIfInBounds i true) opn qs' cs pd:=by
 obtain ⟨h1,o',h2,h3⟩:=mem_ready.1 hr;rw [hi] at h2;cases h2
 exact ⟨(iv.fr.mono hle).tp hv _,All2.mono' hle iv.df,iv.cls.set (rR iv.le hr (iv.notex hno)),iv.le.set i,λc hc=>⟨(iv.cl c hc).1.trans hle,(iv.cl c hc).2.imp_right (hqs _)⟩,H,iv.k0,iv.kp,
  λp hp=>(iv.pn p hp).step hsel hi h1 (λe=>hno ((iv.op i).2 ⟨p,hp,e.symm⟩)) h3 v x,iv.pw,iv.op⟩
end
end Go.Lk
namespace Go.Lk
open Go.Eng Go.RowKit
theorem dD {γ:Type} (n:Nat) (k:Nat->γ):br n k=k n:=by cases n <;> rfl
theorem og (i j:Nat):(Nat.shiftLeft 1 i).testBit j=decide (i=j):=by
 show (1 <<< i).testBit j=_;rw [Nat.one_shiftLeft,Nat.testBit_two_pow]
theorem lM (m i:Nat):gR m i=m.testBit i:=by
 unfold gR
 have hb:∀ j,(Nat.land m (Nat.shiftLeft 1 i)).testBit j=(m.testBit j && decide (i=j)):=λj=>by
  show (m &&& (1 <<< i)).testBit j=_;rw [Nat.testBit_and,Nat.one_shiftLeft,Nat.testBit_two_pow]
 cases h:m.testBit i with
 | false=>
  have h0:Nat.land m (Nat.shiftLeft 1 i)=0:=by
   apply Nat.eq_of_testBit_eq;intro j;rw [hb,Nat.zero_testBit]
   by_cases hj:i=j
   .subst hj;rw [h];rfl
   .simp [hj]
  rw [h0];rfl
 | true=>
  have:Nat.beq (Nat.land m (Nat.shiftLeft 1 i)) 0=false:=by
   cases hq:Nat.beq (Nat.land m (Nat.shiftLeft 1 i)) 0 with
   | false=>rfl
   | true=>
    have h1:=Nat.eq_of_beq_eq_true hq
    have h2:=hb i
    rw [h1,h,Nat.zero_testBit] at h2
    simp at h2
  rw [this]
theorem E6 {p m:Nat} (h:um p m=true) (i:Nat) (hi:p.testBit i=true):m.testBit i=true:=by
 have h:p &&& m=p:=Nat.eq_of_beq_eq_true h;have h2:=congrArg (λx=>x.testBit i) h;simp only [Nat.testBit_and,hi,Bool.true_and] at h2;exact h2
theorem Lp {p m:Nat} (h:∀ i,p.testBit i=true->m.testBit i=true):um p m=true:=by
 have:p &&& m=p:=by
  apply Nat.eq_of_testBit_eq;intro i;rw [Nat.testBit_and]
  cases hp:p.testBit i with
  | false=>rfl
  | true=>rw [h i hp];rfl
 show Nat.beq (p &&& m) p=true;rw [this];exact Nat.beq_refl p
theorem oJ {a b:Nat} (h:jR a b=true) (i:Nat) (hi:a.testBit i=true):b.testBit i=false:=by
 have h:a &&& b=0:=Nat.eq_of_beq_eq_true h;have h2:=congrArg (λx=>x.testBit i) h;simp only [Nat.testBit_and,hi,Bool.true_and,Nat.zero_testBit] at h2;exact h2
theorem iV (a b i:Nat):(Nat.lor a b).testBit i=(a.testBit i || b.testBit i):=Nat.testBit_or a b i
theorem iJ:∀ (l:List Nat) (i:Nat),(iY l).testBit i=l.contains i
 | [],i=>by show Nat.testBit 0 i=_;simp
 | t::l,i=>by
  show (Nat.lor (Nat.shiftLeft 1 t) (iY l)).testBit i=_;rw [iV,og,iJ l i,List.contains_cons]
  by_cases h:t=i
  .subst h;simp
  .have:(i == t)=false:=by simp;exact λe=>h e.symm
   rw [this];simp [h]
theorem fA:∀ (l:List Edge) (i:Nat),(iB l).testBit i=true↔∃ e ∈ l,Region.binds .any e=true/\e.on=i
 | [],i=>by show Nat.testBit 0 i=true↔_;simp
 | e::l,i=>by
  have ih:=fA l i;have h:iB (e::l)=(Bool.rec (iB l) (Nat.lor (Nat.shiftLeft 1 e.on) (iB l)) (Region.binds .any e):Nat):=rfl;rw [h]
  cases hb:Region.binds .any e with
  | false=>
   simp only [List.mem_cons,exists_eq_or_imp,hb]
   rw [ih];simp
  | true=>
   show (Nat.lor (Nat.shiftLeft 1 e.on) (iB l)).testBit i=true↔_
   rw [iV,og]
   simp only [Bool.or_eq_true,decide_eq_true_eq,List.mem_cons,exists_eq_or_imp,hb,true_and]
   rw [ih]
theorem pg (d:Option Nat) (i:Nat):(v8 d).testBit i=true↔d=some i:=by
 cases d with
 | none=>show Nat.testBit 0 i=true↔_;simp
 | some d=>show (Nat.shiftLeft 1 d).testBit i=true↔_;rw [og];simp
section
variable {Pr:Program} {ops:Array Oper}
theorem Dr (o:Oper):HZ Pr ops o= .mk (iB o.after.toList) (iY (o.looksAt ops)) (v8 o.dst) (dJ Pr o.op) (dZ o.op) (wQ o):=by
 unfold HZ;rw [dD,dD,dD]
theorem qG:dz Pr ops=ops.toList.map (HZ Pr ops):=by
 unfold dz
 induction ops.toList with
 | nil=>rfl
 | cons o l ih=>exact congrArg (HZ Pr ops o::·) ih
structure ML (ops:Array Oper) (L:Nat) (listed:Array Bool):Prop where
 size:listed.size=ops.size
 get:∀ j,j<ops.size->listed[j]?=some (L.testBit j)
 lt:∀ j,L.testBit j=true->j<ops.size
theorem ML.zero:ML ops 0 (Array.replicate ops.size false):=⟨by simp,λj hj=>by rw [Array.getElem?_replicate,if_pos hj];simp,λj h=>by simp at h⟩
theorem ML.set {L:Nat} {listed:Array Bool} (h:ML ops L listed) {i:Nat} (hi:i<ops.size):ML ops (Nat.lor L (Nat.shiftLeft 1 i)) (listed.setIfInBounds i true):=by
 refine ⟨by simp [h.size],λj hj=>?_,λj hj=>?_⟩
 .rw [iV,og,Array.getElem?_setIfInBounds]
  by_cases hij:i=j
  .rw [if_pos hij,if_pos (by rw [hij,h.size];exact hj)];simp [hij]
  .rw [if_neg hij,h.get j hj];simp [hij]
 .rw [iV,og,Bool.or_eq_true,decide_eq_true_eq] at hj
  rcases hj with hj | rfl
  .exact h.lt j hj
  .exact hi
theorem ML.mark {L:Nat} {listed:Array Bool} (h:ML ops L listed) {l:List Nat} (hl:∀ i ∈ l,i<ops.size):ML ops (Nat.lor L (iY l)) (mark l listed):=by
 obtain ⟨m1,m2⟩:=ol l listed;refine ⟨by rw [m1,h.size],λj hj=>?_,λj hj=>?_⟩
 .rw [iV,iJ,m2,h.get j hj];cases l.contains j <;> simp
 .rw [iV,iJ,Bool.or_eq_true] at hj
  rcases hj with hj | hj
  .exact h.lt j hj
  .exact hl j (by simpa using hj)
theorem ML.un {L:Nat} {listed:Array Bool} (h:ML ops L listed) {j:Nat} (hj:j<ops.size):listed.getD j true=L.testBit j:=by
 rw [Array.getD_eq_getD_getElem?,h.get j hj];rfl
theorem ML.li {L:Nat} {listed:Array Bool} (h:ML ops L listed) {j:Nat}:listed.getD j false=L.testBit j:=by
 rw [Array.getD_eq_getD_getElem?]
 by_cases hj:j<ops.size
 .rw [h.get j hj];rfl
 .rw [Array.getElem?_eq_none (by rw [h.size];omega)]
  cases hb:L.testBit j with
  | false=>rfl
  | true=>exact absurd (h.lt j hb) hj
theorem jT {tab:List Rw} {i:Nat} {f:Nat->Nat->Nat->Bool->Bool->Bool->Bool} (ht:tab=dz Pr ops) (e:gW false tab i f=true) :
  ∃ o,ops[i]?=some o/\f (iB o.after.toList) (iY (o.looksAt ops)) (v8 o.dst) (dJ Pr o.op) (dZ o.op) (wQ o)=true:=by
 unfold gW at e;rw [gD,ht,qG,List.getElem?_map] at e
 cases ho:ops.toList[i]? with
 | none=>rw [ho] at e;cases e
 | some o=>
  rw [ho] at e
  rw [Array.getElem?_toList] at ho
  refine ⟨o,ho,?_⟩
  simp only [Option.map_some,Dr] at e
  exact e
theorem qW {i:Nat} {o:Oper} (ho:ops[i]?=some o):(dz Pr ops)[i]?=some (.mk (iB o.after.toList) (iY (o.looksAt ops)) (v8 o.dst) (dJ Pr o.op) (dZ o.op) (wQ o)):=by
 rw [qG,List.getElem?_map,Array.getElem?_toList,ho,Option.map_some,Dr]
theorem Cr {b c:Bool}:(Bool.rec c false b:Bool)=true↔b=false/\c=true:=by cases b <;> simp
theorem bf {b c:Bool}:(Bool.rec false c b:Bool)=true↔b=true/\c=true:=by cases b <;> simp
theorem CV {b c:Bool}:(Bool.rec c true b:Bool)=true↔b=true\/c=true:=by cases b <;> simp
theorem gI {L i:Nat} {listed:Array Bool} (h:ML ops L listed) (e:gu (dz Pr ops) L i=true):i ∈ Region.ready .any ops listed:=by
 obtain ⟨o,ho,e⟩:=jT rfl e;rw [Cr,lM] at e;have hi:=(Array.getElem?_eq_some_iff.1 ho).1;refine mem_ready.2 ⟨by rw [h.un hi];exact e.1,o,ho,λx hx hb=>?_⟩;rw [h.li];exact E6 e.2 _ ((fA _ _).2 ⟨x,by simpa using hx,hb,rfl⟩)
theorem rJ {L i:Nat}:∀ {tab:List Rw} {j0:Nat},gm L i tab j0=true->∀ k p a d q s f,tab[k]?=some (.mk p a d q s f)->L.testBit (j0+k)=false->um p L=true->j0+k=i
 | [],_,_,k,_,_,_,_,_,_,hk,_,_=>by simp at hk
 | .mk p a d q s f::tab,j0,e,k,p',a',d',q',s',f',hk,hL,hs=>by
  have e:(Bool.rec (Bool.rec (gm L i tab (Nat.succ j0)) (Bool.rec false (gm L i tab (Nat.succ j0)) (Nat.beq j0 i)) (um p L)) (gm L i tab (Nat.succ j0)) (gR L j0):Bool)=true:=e
  cases k with
  | zero=>
   simp only [List.getElem?_cons_zero,Option.some.injEq,Rw.mk.injEq] at hk
   obtain ⟨rfl,_⟩:=hk
   rw [Nat.add_zero] at hL
   rw [lM,hL,hs] at e
   have e:(Bool.rec false (gm L i tab (Nat.succ j0)) (Nat.beq j0 i):Bool)=true:=e
   rw [bf] at e
   exact Nat.eq_of_beq_eq_true e.1
  | succ k=>
   have e':gm L i tab (Nat.succ j0)=true:=by
    cases h1:gR L j0 with
    | true=>rw [h1] at e;exact e
    | false=>
     rw [h1] at e
     cases h2:um p L with
     | false=>rw [h2] at e;exact e
     | true=>rw [h2] at e;exact (bf.1 e).2
   have:=rJ e' k p' a' d' q' s' f' (by simpa using hk) (by rw [show Nat.succ j0+k=j0+(k+1) by omega];exact hL) hs
   omega
theorem rk {p:Nat->Bool} {i:Nat}:∀ {l:List Nat},l.Nodup->i ∈ l->p i=true->(∀ j ∈ l,p j=true->j=i)->l.filter p=[i]
 | [],_,h,_,_=>by cases h
 | a::l,hn,h,hp,ho=>by
  rw [List.nodup_cons] at hn;rw [List.filter_cons]
  by_cases ha:a=i
  .subst ha;rw [if_pos hp]
   have:l.filter p=[]:=by
    rw [List.filter_eq_nil_iff];intro j hj hpj;have:=ho j (List.mem_cons_of_mem _ hj) hpj;subst this;exact hn.1 hj
   rw [this]
  .have hpa:p a≠true:=λhpa=>ha (ho a (List.mem_cons_self ..) hpa);rw [if_neg hpa];exact rk hn.2 ((List.mem_cons.1 h).resolve_left (Ne.symm ha)) hp λj hj=>ho j (List.mem_cons_of_mem _ hj)
theorem pG {L i:Nat} {listed:Array Bool} (h:ML ops L listed) (e:gm L i (dz Pr ops) 0=true):∀ j ∈ Region.ready .any ops listed,j=i:=by
 intro j hj;obtain ⟨h1,o,h2,h3⟩:=mem_ready.1 hj;have hlt:=(Array.getElem?_eq_some_iff.1 h2).1;rw [h.un hlt] at h1
 have:=rJ e j _ _ _ _ _ _ (qW h2) (by rw [Nat.zero_add];exact h1) (Lp λx hx=>by
  obtain ⟨e,he,hb,rfl⟩:=(fA _ _).1 hx
  rw [← h.li];exact h3 e (by simpa using he) hb)
 omega
theorem sW {L i:Nat} {listed:Array Bool} (h:ML ops L listed) (e:gm L i (dz Pr ops) 0=true) (hr:i ∈ Region.ready .any ops listed):Region.ready .any ops listed=[i]:=by
 have hall:=pG (Pr:=Pr) h e;have hm:∀ j,j ∈ List.range ops.size/\(λi=>!listed.getD i true && ((ops[i]?).map (·.after.all λe=>!Region.binds .any e || listed.getD e.on false)).getD false) j=true↔j ∈ Region.ready .any ops listed:=λj=>by unfold Region.ready;rw [List.mem_filter]
 obtain ⟨q1,q2⟩:=(hm i).2 hr;exact rk List.nodup_range q1 q2 λj hj hp=>hall j ((hm j).1 ⟨hj,hp⟩)
theorem rV {L i a d:Nat}:∀ {tab:List Rw} {j0:Nat},l7 L i a d tab j0=true->∀ k p' a' d' q s f,tab[k]?=some (.mk p' a' d' q s f)->j0+k≠i->L.testBit (j0+k)=false->p'.testBit i=false->jR d a'=true/\jR d d'=true/\jR d' a=true
 | [],_,_,k,_,_,_,_,_,_,hk,_,_,_=>by simp at hk
 | .mk p a2 d2 q s f::tab,j0,e,k,p',a',d',q',s',f',hk,hi,hL,hp=>by
  have e:(Bool.rec (Bool.rec (Bool.rec (Bool.rec false (Bool.rec false (Bool.rec false (l7 L i a d tab (Nat.succ j0)) (jR d2 a)) (jR d d2)) (jR d a2)) (l7 L i a d tab (Nat.succ j0)) (gR p i)) (l7 L i a d tab (Nat.succ j0)) (gR L j0)) (l7 L i a d tab (Nat.succ j0)) (Nat.beq j0 i):Bool)=true:=e
  cases k with
  | zero=>
   simp only [List.getElem?_cons_zero,Option.some.injEq,Rw.mk.injEq] at hk
   obtain ⟨rfl,rfl,rfl,_⟩:=hk
   rw [Nat.add_zero] at hL hi
   have hbi:Nat.beq j0 i=false:=by
    cases hb:Nat.beq j0 i with
    | false=>rfl
    | true=>exact absurd (Nat.eq_of_beq_eq_true hb) hi
   rw [hbi,show gR L j0=false by rw [lM];exact hL,show gR p i=false by rw [lM];exact hp] at e
   have e:(Bool.rec false (Bool.rec false (Bool.rec false (l7 L i a d tab (Nat.succ j0)) (jR d2 a)) (jR d d2)) (jR d a2):Bool)=true:=e
   rw [bf,bf,bf] at e
   exact ⟨e.1,e.2.1,e.2.2.1⟩
  | succ k=>
   have e':l7 L i a d tab (Nat.succ j0)=true:=by
    cases h1:Nat.beq j0 i with
    | true=>rw [h1] at e;exact e
    | false=>
     rw [h1] at e
     cases h2:gR L j0 with
     | true=>rw [h2] at e;exact e
     | false=>
      rw [h2] at e
      cases h3:gR p i with
      | true=>rw [h3] at e;exact e
      | false=>
       rw [h3] at e
       have e:(Bool.rec false (Bool.rec false (Bool.rec false (l7 L i a d tab (Nat.succ j0)) (jR d2 a)) (jR d d2)) (jR d a2):Bool)=true:=e
       rw [bf,bf,bf] at e
       exact e.2.2.2
   exact rV e' k p' a' d' q' s' f' (by simpa using hk) (by omega) (by rw [show Nat.succ j0+k=j0+(k+1) by omega];exact hL) hp
theorem Im {x y:Oper} (h1:jR (v8 x.dst) (iY (y.looksAt ops))=true) (h2:jR (v8 x.dst) (v8 y.dst)=true) (h3:jR (v8 y.dst) (iY (x.looksAt ops))=true):x.apart ops y=true:=by
 unfold Oper.apart;rw [Bool.and_eq_true]
 constructor
 .cases hd:x.dst with
  | none=>rfl
  | some d=>
   have hb:=(pg x.dst d).2 hd
   have q1:=oJ h1 d hb
   have q2:=oJ h2 d hb
   rw [iJ] at q1
   have q3:y.dst≠some d:=λe=>by rw [(pg y.dst d).2 e] at q2;cases q2
   simp only [q1,Bool.not_false,Bool.true_and,bne_iff_ne,ne_eq]
   exact q3
 .cases hd:y.dst with
  | none=>rfl
  | some d=>
   have q1:=oJ h3 d ((pg y.dst d).2 hd)
   rw [iJ] at q1
   simp only [q1,Bool.not_false]
theorem rq {L i:Nat} {listed:Array Bool} (h:ML ops L listed) (e:uT (dz Pr ops) L i=true):Region.free .any ops listed i=true:=by
 obtain ⟨o,ho,e⟩:=jT rfl e;unfold Region.free;rw [ho];simp only [List.all_eq_true,List.mem_range];intro j hj
 by_cases hji:j=i
 .simp [hji]
 .have hoj:ops[j]?=some ops[j]:=Array.getElem?_eq_getElem hj;rw [hoj,h.un hj]
  cases hL:L.testBit j with
  | true=>simp
  | false=>
   cases hp:(iB (ops[j]).after.toList).testBit i with
   | true=>
    obtain ⟨e,he,hb,hon⟩:=(fA _ _).1 hp
    have:(ops[j]).after.any (λe=>Region.binds .any e && e.on == i)=true:=by
     rw [Array.any_eq_true'];exact ⟨e,by simpa using he,by simp [hb,hon]⟩
    simp [this]
   | false=>
    obtain ⟨q1,q2,q3⟩:=rV e j _ _ _ _ _ _ (qW hoj) (by rw [Nat.zero_add];exact hji) (by rw [Nat.zero_add];exact hL) hp
    have:=Im (ops:=ops) q1 q2 q3
    simp [this]
theorem ql {m x:Nat}:∀ {tab:List Rw} {j0:Nat},(mD m tab j0).testBit x=true->∃ k p a d q s f,tab[k]?=some (.mk p a d q s f)/\m.testBit (j0+k)=true/\p.testBit x=true
 | [],_,e=>by have e:Nat.testBit 0 x=true:=e;simp at e
 | .mk p a d q s f::tab,j0,e=>by
  have e:(Bool.rec (mD m tab (Nat.succ j0)) (Nat.lor p (mD m tab (Nat.succ j0))) (gR m j0):Nat).testBit x=true:=e
  have next:(mD m tab (Nat.succ j0)).testBit x=true->∃ k p' a' d' q' s' f',(Rw.mk p a d q s f::tab)[k]?=some (.mk p' a' d' q' s' f')/\m.testBit (j0+k)=true/\p'.testBit x=true:=λh=>by
   obtain ⟨k,p',a',d',q',s',f',h1,h2,h3⟩:=ql h;exact ⟨k+1,p',a',d',q',s',f',by simpa using h1,by rw [show j0+(k+1)=Nat.succ j0+k by omega];exact h2,h3⟩
  cases hm:gR m j0 with
  | false=>rw [hm] at e;exact next e
  | true=>
   rw [hm] at e
   have e:(Nat.lor p (mD m tab (Nat.succ j0))).testBit x=true:=e
   rw [iV,Bool.or_eq_true] at e
   rcases e with e | e
   .exact ⟨0,p,a,d,q,s,f,rfl,by rw [lM] at hm;exact hm,e⟩
   .exact next e
theorem su {x:Nat}:∀ (k i:Nat),reach ops x k i=true->reach ops x (k+1) i=true
 | 0,i,h=>by
  cases ho:ops[i]? with
  | none=>simp [reach,ho] at h
  | some o=>simp only [reach,ho,Option.any_some,Bool.or_eq_true] at h ⊢;exact .inl h
 | k+1,i,h=>by
  cases ho:ops[i]? with
  | none=>simp [reach,ho] at h
  | some o=>
   rw [reach,ho,Option.any_some,Bool.or_eq_true] at h ⊢
   rcases h with h | h
   .exact .inl h
   .refine .inr ?_
    rw [Array.any_eq_true'] at h ⊢
    obtain ⟨e,he,h⟩:=h
    rw [Bool.and_eq_true] at h
    exact ⟨e,he,by rw [Bool.and_eq_true];exact ⟨h.1,su k _ h.2⟩⟩
theorem mP {x y:Nat} {oy:Oper} (hy:ops[y]?=some oy) (hx:∃ e ∈ oy.after,Region.binds .any e=true/\e.on=x):∀ (k i:Nat),reach ops y k i=true->reach ops x (k+1) i=true
 | 0,i,h=>by
  cases ho:ops[i]? with
  | none=>simp [reach,ho] at h
  | some o=>
   simp only [reach,ho,Option.any_some] at h
   rw [Array.any_eq_true'] at h
   obtain ⟨e,he,h⟩:=h
   rw [Bool.and_eq_true] at h
   have hon:e.on=y:=by simpa using h.2
   rw [reach,ho,Option.any_some,Bool.or_eq_true]
   refine .inr ?_
   rw [Array.any_eq_true']
   refine ⟨e,he,?_⟩
   rw [Bool.and_eq_true]
   refine ⟨h.1,?_⟩
   rw [hon,reach,hy,Option.any_some,Array.any_eq_true']
   obtain ⟨e',he',hb',ho'⟩:=hx
   exact ⟨e',he',by simp [hb',ho']⟩
 | k+1,i,h=>by
  cases ho:ops[i]? with
  | none=>simp [reach,ho] at h
  | some o=>
   rw [reach,ho,Option.any_some,Bool.or_eq_true] at h
   rcases h with h | h
   .have h0:reach ops y 0 i=true:=by rw [reach,ho,Option.any_some];exact h
    have:=mP hy hx 0 i h0
    have up:∀ j,reach ops x (1+j) i=true:=λj=>by
     induction j with
     | zero=>exact this
     | succ j ih=>exact su _ _ ih
    have h2:=up (k+1)
    rw [show 1+(k+1)=k+1+1 by omega] at h2
    exact h2
   .rw [Array.any_eq_true'] at h
    obtain ⟨e,he,h⟩:=h
    rw [Bool.and_eq_true] at h
    rw [reach,ho,Option.any_some,Bool.or_eq_true]
    refine .inr ?_
    rw [Array.any_eq_true']
    exact ⟨e,he,by rw [Bool.and_eq_true];exact ⟨h.1,mP hy hx k _ h.2⟩⟩
theorem pu {i x:Nat}:∀ k,(Ef (dz Pr ops) i k).testBit x=true->reach ops x k i=true
 | 0,h=>by
  have h:(gW 0 (dz Pr ops) i λp _ _ _ _ _=>p).testBit x=true:=h
  cases ho:ops[i]? with
  | none=>
   unfold gW at h
   rw [gD,qG,List.getElem?_map,Array.getElem?_toList,ho] at h
   have h:Nat.testBit 0 x=true:=h
   simp at h
  | some o=>
   unfold gW at h
   rw [gD,qW ho] at h
   have h:(iB o.after.toList).testBit x=true:=h
   obtain ⟨e,he,hb,hon⟩:=(fA _ _).1 h
   rw [reach,ho,Option.any_some,Array.any_eq_true']
   exact ⟨e,by simpa using he,by simp [hb,hon]⟩
 | k+1,h=>by
  have h:(br (Ef (dz Pr ops) i k) λm=>Nat.lor m (mD m (dz Pr ops) 0)).testBit x=true:=h;rw [dD,iV,Bool.or_eq_true] at h
  rcases h with h | h
  .exact su _ _ (pu k h)
  .obtain ⟨y,p,a,d,q,s,f,h1,h2,h3⟩:=ql h;rw [Nat.zero_add] at h2
   cases ho:ops[y]? with
   | none=>rw [qG,List.getElem?_map,Array.getElem?_toList,ho] at h1;cases h1
   | some o=>
    rw [qW ho] at h1
    simp only [Option.some.injEq,Rw.mk.injEq] at h1
    obtain ⟨rfl,_⟩:=h1
    obtain ⟨e,he,hb,hon⟩:=(fA _ _).1 h3
    exact mP ho ⟨e,by simpa using he,hb,hon⟩ k i (pu k h2)
theorem Dx (f:Nat->Bool):∀ l,Mk f l=l.all f
 | []=>rfl
 | a::l=>by
  show (Bool.rec false (Mk f l) (f a):Bool)=_;rw [Dx f l,List.all_cons];cases f a <;> rfl
theorem sB:∀ (l:List PS) (L:Nat) (listed:Array Bool) (opn qs:List Nat),ML ops L listed->(∀ i ∈ opn,i<ops.size)->Ns (dz Pr ops) l L opn qs=true->zK Pr ops l listed opn qs=true
 | [],L,listed,opn,qs,h,ho,e=>by
  have e:(List.rec (Bool.rec false (gm L 1 (dz Pr ops) 0) (gm L 0 (dz Pr ops) 0)) (λ_ _ _=>false) opn:Bool)=true:=e
  cases opn with
  | cons=>cases e
  | nil=>
   have e:(Bool.rec false (gm L 1 (dz Pr ops) 0) (gm L 0 (dz Pr ops) 0):Bool)=true:=e
   rw [bf] at e
   have h0:=pG (Pr:=Pr) h e.1
   have h1:=pG (Pr:=Pr) h e.2
   have:Region.ready .any ops listed=[]:=by
    cases hr:Region.ready .any ops listed with
    | nil=>rfl
    | cons j r=>
     have m:j ∈ Region.ready .any ops listed:=by rw [hr];exact List.mem_cons_self ..
     have:=h0 j m
     have:=h1 j m
     omega
   simp [zK,this]
 | .q i::l,L,listed,opn,qs,h,ho,e=>by
  have e:(gW false (dz Pr ops) i λ_ _ _ q st _=>Bool.rec false (Bool.rec false (Bool.rec false (br (Nat.lor L (Nat.shiftLeft 1 i)) λL'=>Ns (dz Pr ops) l L' opn (Bool.rec (i::qs) qs st)) (gu (dz Pr ops) L i)) (uT (dz Pr ops) L i)) q)=true:=e;obtain ⟨o,hi,e⟩:=jT rfl e;rw [bf,bf,bf,dD] at e;obtain ⟨e1,e2,e3,e4⟩:=e;have hlt:=(Array.getElem?_eq_some_iff.1 hi).1
  have hq:(Bool.rec (i::qs) qs (dZ o.op):List Nat)=if tY ops dZ i then qs else i::qs:=by
   have:tY ops dZ i=dZ o.op:=by unfold tY;rw [hi]
   rw [this];cases dZ o.op <;> rfl
  rw [hq] at e4;have:=sB l _ _ opn _ (h.set hlt) ho e4;unfold zK;simp only [Bool.and_eq_true];refine ⟨⟨⟨by unfold tY;rw [hi];exact e1,rq (Pr:=Pr) h e2⟩,by simpa using gI (Pr:=Pr) h e3⟩,this⟩
 | .e i chk::l,L,listed,opn,qs,h,ho,e=>by
  have e:(br (Nat.lor L (iY opn)) λL1=>Bool.rec false (Bool.rec false (Bool.rec false (br (Ef (dz Pr ops) i 5) λA=>Bool.rec false (br (Nat.lor L (Nat.shiftLeft 1 i)) λL'=>Ns (dz Pr ops) l L' opn qs) (Mk (λj=>Bool.rec (Bool.rec (gR A j) true (qz j chk)) true (Nat.beq j i)) qs)) (gu (dz Pr ops) L i)) (gu (dz Pr ops) L1 i)) (gm L1 i (dz Pr ops) 0):Bool)=true:=e;rw [dD,bf,bf,bf,dD,bf,dD,Dx] at e;obtain ⟨e1,e2,e3,e4,e5⟩:=e;have hm:=h.mark ho;have hr:=gI (Pr:=Pr) h e3;obtain ⟨_,o,hi,_⟩:=mem_ready.1 hr;have hlt:=(Array.getElem?_eq_some_iff.1 hi).1;have:=sB l _ _ opn qs (h.set hlt) ho e5;unfold zK;simp only [Bool.and_eq_true];refine ⟨⟨⟨by simpa using sW (Pr:=Pr) hm e1 (gI (Pr:=Pr) hm e2),by simpa using hr⟩,?_⟩,this⟩;rw [List.all_eq_true] at e4 ⊢;intro j hj;have:=e4 j hj;rw [CV,CV,lM] at this
  rcases this with q | q | q
  .have:=Nat.eq_of_beq_eq_true q;simp [this]
  .rw [nM] at q;simp only [q,Bool.or_true]
  .simp [pu 5 q]
 | .o i::l,L,listed,opn,qs,h,ho,e=>by
  have e:(gW false (dz Pr ops) i λ_ _ _ _ _ f=>Bool.rec false (Bool.rec false (Bool.rec false (Bool.rec (Ns (dz Pr ops) l L (opn++[i]) qs) false (qz i opn)) (gu (dz Pr ops) L i)) (uT (dz Pr ops) L i)) f)=true:=e;obtain ⟨o,hi,e⟩:=jT rfl e;rw [bf,bf,bf,Cr,nM] at e;obtain ⟨e1,e2,e3,e4,e5⟩:=e;have hlt:=(Array.getElem?_eq_some_iff.1 hi).1
  have:=sB l L listed (opn++[i]) qs h (λj hj=>by
   rcases List.mem_append.1 hj with hj | hj
   .exact ho j hj
   .have:j=i:=by simpa using hj
    rw [this];exact hlt) e5
  unfold zK;simp only [Bool.and_eq_true];refine ⟨⟨⟨⟨?_,rq (Pr:=Pr) h e2⟩,by simpa using gI (Pr:=Pr) h e3⟩,by simpa using e4⟩,this⟩;unfold vT;rw [hi];obtain ⟨dst,op,ty,pos,af,g⟩:=o;cases dst <;> cases g <;> first | exact e1 | cases e1
 | .f i::l,L,listed,opn,qs,h,ho,e=>by
  have e:(br (Nat.lor L (iY (pU i opn))) λL1=>Bool.rec false (Bool.rec false (Bool.rec false (br (Nat.lor L (Nat.shiftLeft 1 i)) λL'=>Ns (dz Pr ops) l L' (pU i opn) qs) (gu (dz Pr ops) L1 i)) (gm L1 i (dz Pr ops) 0)) (qz i opn):Bool)=true:=e;rw [dD,bf,bf,bf,dD,nM] at e;obtain ⟨e1,e2,e3,e4⟩:=e;have hdrop:∀ j ∈ pU i opn,j<ops.size:=λj hj=>ho j (List.mem_filter.1 hj).1;have hm:=h.mark hdrop;have hlt:=ho i (by simpa using e1);have:=sB l _ _ (pU i opn) qs (h.set hlt) hdrop e4;unfold zK;simp only [Bool.and_eq_true];have hon:=sW (Pr:=Pr) hm e2 (gI (Pr:=Pr) hm e3);unfold pU at hon this;exact ⟨⟨e1,by rw [hon];simp⟩,this⟩
end
end Go.Lk
namespace Go.Lk
open Go.Eng Go.RowKit
def Ff (pd:List Pn):Nat:=pd.countP λp=>p.c.isNone
section
variable {Pr:Program} {ops:Array Oper} {m:Nat} {w0:Base} {K:Nat->Option Obj} {ρ:Ren} {σ:T V} {τ:Nat->Value} {ds:List D} {dsr:List Deferred} {h:T Blk} {n:P} {w:World} {l A:Array Bool} {opn qs:List Nat} {cs:List Cl} {pd l1 l2:List Pn} {p:Pn}
theorem iK (l1 l2:List Pn) (j:Nat):exP (l1++l2) j=(exP l1 j || exP l2 j):=by unfold exP;rw [List.any_append]
theorem kW (p:Pn) (l2:List Pn) (j:Nat):exP (p::l2) j=((p.i == j && p.c.isSome) || exP l2 j):=by unfold exP;rw [List.any_cons]
theorem xh {pd:List Pn} {j:Nat} (h:∀ q ∈ pd,q.i≠j):exP pd j=false:=by
 unfold exP;rw [List.any_eq_false];intro q hq;have:=h q hq;simp [this]
theorem IV.split (iv:IV Pr ops m w0 K ρ σ τ ds dsr h n w l A opn qs cs (l1++p::l2)):(∀ q,q ∈ l1\/q ∈ l2->PnR p q)/\(l1++l2).Pairwise PnR:=by
 have hpw:=iv.pw;rw [List.pairwise_append,List.pairwise_cons] at hpw;obtain ⟨h1,⟨h2,h3⟩,h4⟩:=hpw;refine ⟨λq hq=>?_,List.pairwise_append.2 ⟨h1,h3,λa ha b hb=>h4 a ha b (List.mem_cons_of_mem _ hb)⟩⟩
 rcases hq with hq | hq
 .exact (h4 q hq p (List.mem_cons_self ..)).symm
 .exact h2 q hq
theorem bB {q:Pn}:q ∈ l1++p::l2↔(q ∈ l1\/q ∈ l2)\/q=p:=by
 rw [List.mem_append,List.mem_cons]
 constructor
 .rintro (h | rfl | h)
  .exact .inl (.inl h)
  .exact .inr rfl
  .exact .inl (.inr h)
 .rintro ((h | h) | rfl)
  .exact .inl h
  .exact .inr (.inr h)
  .exact .inr (.inl rfl)
theorem IV.rdy (iv:IV Pr ops m w0 K ρ σ τ ds dsr h n w l A opn qs cs (l1++p::l2)) (hc:p.c=none):p.i ∈ Region.ready .any ops A:=by
 have hp:=iv.pn p (bB.2 (.inr rfl))
 have he:exP (l1++p::l2) p.i=false:=by
  rw [iK,kW,xh (pd:=l1) λq hq=>((iv.split.1 q (.inl hq)).1).symm,xh (pd:=l2) λq hq=>((iv.split.1 q (.inr hq)).1).symm,hc];simp
 exact mem_ready.2 ⟨iv.le.un' hp.un he,p.o,hp.hi,λe he hb=>iv.le.li (hp.rdy e he hb)⟩
theorem IV.exec (iv:IV Pr ops m w0 K ρ σ τ ds dsr h n w l A opn qs cs (l1++p::l2)) (hsel:∀ (j:Nat) (o:Oper) cs b,ops[j]?=some o->o.op≠.select cs b) (hc:p.c=none) :
  IV Pr ops m w0 (λc=>if c=w.heap.size then some p.obj else K c) ρ σ (gT τ p.dst (p.xv w.heap.size)) ds dsr h n (w.alloc p.obj) l (A.setIfInBounds p.i true) opn qs cs (l1++{ p with c:=some w.heap.size }::l2):=by
 obtain ⟨hoth,hpw⟩:=iv.split;have hpm:=iv.pn p (bB.2 (.inr rfl));have hK:∀ c o,K c=some o->c<w.heap.size:=λc o hk=>(Array.getElem?_eq_some_iff.1 (iv.hp.kept c o hk)).1;have hul:l[p.i]?=some false:=dC.1 hpm.un;refine ⟨⟨λt v e=>⟨(iv.fr.get t v e).1,?_⟩⟩,iv.df,iv.cls.set (iv.rdy hc),⟨by simp [iv.le.1],λj=>?_⟩,iv.cl,iv.hp.spare p.obj,λc o hk=>?_,λq hq c hqc=>?_,λq hq=>?_,?_,λi=>?_⟩
 .have hne:Nat.beq t p.dst=false:=by
   cases hb:Nat.beq t p.dst with
   | false=>rfl
   | true=>
    have:=Nat.eq_of_beq_eq_true hb
    subst this
    rw [hpm.noσ] at e;cases e
  simp only [gT,hne,cond_false];exact (iv.fr.get t v e).2
 .rw [Array.getElem?_setIfInBounds,iK,kW]
  by_cases hj:p.i=j
  .subst hj;have hlt:p.i<A.size:=by rw [iv.le.1];exact (Array.getElem?_eq_some_iff.1 hul).1
   rw [if_pos rfl,if_pos hlt,hul];simp
  .rw [if_neg hj,iv.le.2 j,iK,kW];have:(p.i == j)=false:=by simp;exact hj
   simp [this]
 .have h1:=iv.k0 c o hk;have h2:=hK c o h1;rw [if_neg (by omega)];exact h1
 .rcases bB.1 hq with hq | rfl
  .obtain ⟨a1,a2,a3⟩:=iv.kp q (bB.2 (.inl hq)) c hqc;have:=hK c _ a1;rw [if_neg (by omega)];exact ⟨a1,a2,a3⟩
  .cases hqc
   refine ⟨if_pos rfl,?_,iv.hp.old.size⟩
   cases hk:w0.keep w.heap.size with
   | none=>rfl
   | some o=>have:=hK _ _ (iv.k0 _ _ hk);omega
 .rcases bB.1 hq with hq | rfl
  .have hqm:=iv.pn q (bB.2 (.inl hq));have hR:=hoth q hq
   have hno:∀ e ∈ p.o.after,Region.binds .any e=true->e.on≠q.i:=λe he hb heq=>by
    have h1:=hpm.rdy e he hb;rw [heq,fe] at h1;have h2:=dC.1 hqm.un;rw [h1] at h2;cases h2
   obtain ⟨a1,a2,a3⟩:=Oper.apart_spec (hqm.ap p.i p.o hpm.hi hR.1 hpm.un hno);refine ⟨hqm.hi,hqm.hd,hqm.hg,hqm.lt,hqm.fr,hqm.noσ,hqm.un,hqm.rdy,hqm.ap,λhcq w'=>?_,λc hcq=>?_,hqm.nq⟩
   .have hF:F m (gT τ p.dst (p.xv w.heap.size)) dsr=(F m τ dsr).put p.o.dst (p.xv w.heap.size):=by rw [hpm.hd,fT]
    rw [hF,execOp_put q.o (λcs b=>hsel _ _ cs b hqm.hi) _ p.o.dst _ a3];exact hqm.run hcq w'
   .have hne:Nat.beq q.dst p.dst=false:=by
     cases hb:Nat.beq q.dst p.dst with
     | false=>rfl
     | true=>exact absurd (Nat.eq_of_beq_eq_true hb).symm hR.2.1
    simp only [gT,hne,cond_false];exact hqm.ex c hcq
  .exact ⟨hpm.hi,hpm.hd,hpm.hg,hpm.lt,hpm.fr,hpm.noσ,hpm.un,hpm.rdy,hpm.ap,(λhcq=>by cases hcq),(λc hcq=>by cases hcq;simp only [gT,Nat.beq_refl,cond_true]),hpm.nq⟩
 .rw [List.pairwise_append] at hpw;obtain ⟨g1,g2,g3⟩:=hpw
  have hp':∀ q,q ∈ l1\/q ∈ l2->PnR { p with c:=some w.heap.size } q:=λq hq=>by
   refine ⟨(hoth q hq).1,(hoth q hq).2.1,λc hcp hcq=>?_⟩;cases hcp
   obtain ⟨a1,_⟩:=iv.kp q (bB.2 (.inl hq)) _ hcq;have:=hK _ _ a1;omega
  refine List.pairwise_append.2 ⟨g1,List.pairwise_cons.2 ⟨λq hq=>hp' q (.inr hq),g2⟩,λa ha b hb=>?_⟩
  rcases List.mem_cons.1 hb with rfl | hb
  .exact (hp' a (.inl ha)).symm
  .exact g3 a ha b hb
 .rw [iv.op i]
  constructor
  .rintro ⟨q,hq,hqi⟩
   rcases bB.1 hq with hq | rfl
   .exact ⟨q,bB.2 (.inl hq),hqi⟩
   .exact ⟨_,bB.2 (.inr rfl),hqi⟩
  .rintro ⟨q,hq,hqi⟩
   rcases bB.1 hq with hq | rfl
   .exact ⟨q,bB.2 (.inl hq),hqi⟩
   .exact ⟨p,bB.2 (.inr rfl),hqi⟩
theorem IV.flush (iv:IV Pr ops m w0 K ρ σ τ ds dsr h n w l A opn qs cs (l1++p::l2)) {c:Nat} (hc:p.c=some c) {B:Blk} {v:V} (hm:p.mkB n=some (B,v)) :
  IV Pr ops m w0 (λx=>if x=c then none else K x) (ρ.put n ⟨c,0,p.cap,p.k⟩) (T.put (some v) (aB p.dst) σ) τ ds dsr (T.put (some B) n h) n.succ w (l.setIfInBounds p.i true) A (opn.filter (· != p.i)) qs cs (l1++l2):=by
 obtain ⟨hoth,hpw⟩:=iv.split;have hpm:=iv.pn p (bB.2 (.inr rfl));obtain ⟨kp1,kp2,kp3⟩:=iv.kp p (bB.2 (.inr rfl)) c hc;have hle:ρ.le (ρ.put n ⟨c,0,p.cap,p.k⟩):=Ren.le_put iv.hp.free;have hul:l[p.i]?=some false:=dC.1 hpm.un;have hmem:∀ {q},q ∈ l1++l2↔q ∈ l1\/q ∈ l2:=List.mem_append;refine ⟨⟨λt u e=>?_⟩,All2.mono' hle iv.df,iv.cls,⟨by rw [iv.le.1];simp,λj=>?_⟩,λc hc=>⟨(iv.cl c hc).1.trans hle,(iv.cl c hc).2⟩,iv.hp.adopt kp1 kp3 rfl (hpm.fr n B v hm _ c).1,λx o hk=>?_,λq hq x hqx=>?_,λq hq=>?_,hpw,λi=>?_⟩
 .rw [T.get_put] at e
  by_cases ht:aB t=aB p.dst
  .rw [if_pos ht] at e;cases e
   have:=eU ht;subst this;rw [hpm.ex c hc];exact ⟨hpm.lt,(hpm.fr n B v hm _ c).2 Ren.put_same⟩
  .rw [if_neg ht] at e;exact (iv.fr.mono hle).get t u e
 .rw [iv.le.2 j,Array.getElem?_setIfInBounds,iK,kW,iK]
  by_cases hj:p.i=j
  .subst hj;have hlt:p.i<l.size:=(Array.getElem?_eq_some_iff.1 hul).1;rw [if_pos rfl,if_pos hlt,hul,hc,xh (pd:=l1) λq hq=>((hoth q (.inl hq)).1).symm,xh (pd:=l2) λq hq=>((hoth q (.inr hq)).1).symm];simp
  .rw [if_neg hj];have:(p.i == j)=false:=by simp;exact hj
   simp [this]
 .have hne:x≠c:=λe=>by subst e;rw [kp2] at hk;cases hk
  rw [if_neg hne];exact iv.k0 x o hk
 .have hq':=hmem.1 hq;obtain ⟨a1,a2,a3⟩:=iv.kp q (bB.2 (.inl hq')) x hqx;have hne:x≠c:=λe=>by subst e;exact (hoth q hq').2.2 x hc hqx
  rw [if_neg hne];exact ⟨a1,a2,a3⟩
 .have hq':=hmem.1 hq;have hqm:=iv.pn q (bB.2 (.inl hq'));have hR:=hoth q hq';refine ⟨hqm.hi,hqm.hd,hqm.hg,hqm.lt,hqm.fr,?_,by rw [getD_set_ne true hR.1];exact hqm.un,λe he hb=>getD_set_true (hqm.rdy e he hb),λj oj hj hji hjun hjno=>hqm.ap j oj hj hji (CR hjun) hjno,hqm.run,hqm.ex,hqm.nq⟩;rw [T.get_put_ne _ (λe=>hR.2.1 (eU e).symm)];exact hqm.noσ
 .rw [List.mem_filter,iv.op i];simp only [bne_iff_ne,ne_eq]
  constructor
  .rintro ⟨⟨q,hq,rfl⟩,hne⟩
   rcases bB.1 hq with hq | rfl
   .exact ⟨q,hmem.2 hq,rfl⟩
   .exact absurd rfl hne
  .rintro ⟨q,hq,rfl⟩;exact ⟨⟨q,bB.2 (.inl (hmem.1 hq)),rfl⟩,((hoth q (hmem.1 hq)).1).symm⟩
theorem IV.open (iv:IV Pr ops m w0 K ρ σ τ ds dsr h n w l A opn qs cs pd) {i d:Nat} {op:Op} {ty:TypeId} {pos:String} {af:Array Edge} (hi:ops[i]?=some ⟨some d,op,ty,pos,af,none⟩) (hq:qB op=true) (hr:i ∈ Region.ready .any ops l) (hno:i ∉ opn)
  (hfree:Region.free .any ops l i=true) {u:V} (hd:T.get (aB d) σ=some u) {a:Blk × V} (hx:gP Pr op σ n=some a) :
  ∃ p:Pn,p.abs=(i,λn=>gP Pr op σ n)/\p.c=none/\IV Pr ops m w0 K ρ (T.put none (aB d) σ) τ ds dsr h n w l A (opn++[i]) qs cs (p::pd):=by
 obtain ⟨obj,xv,cap,k,f1,f2⟩:=Jm (Pr:=Pr) hq iv.fr hx ty;obtain ⟨g1,o',g2,g3⟩:=mem_ready.1 hr;rw [hi] at g2;cases g2
 refine ⟨⟨i,⟨some d,op,ty,pos,af,none⟩,d,λn=>gP Pr op σ n,obj,xv,cap,k,none⟩,rfl,rfl,⟨λt v e=>?_⟩,iv.df,iv.cls,⟨iv.le.1,λj=>?_⟩,iv.cl,iv.hp,iv.k0,λq hqq c hqc=>?_,λq hqq=>?_,?_,λj=>?_⟩
 .rw [T.get_put] at e
  split at e
  .cases e
  .exact iv.fr.get t v e
 .rw [iv.le.2 j,kW];simp
 .rcases List.mem_cons.1 hqq with rfl | hq'
  .cases hqc
  .exact iv.kp q hq' c hqc
 .rcases List.mem_cons.1 hqq with rfl | hq'
  .refine ⟨hi,rfl,rfl,(iv.fr.get d u hd).1,f2,T.get_put_same ..,g1,g3,Region.free_spec hi hfree,λ_ w=>by rw [aP];exact f1 w _ _ _ _,λc hc=>(by cases hc),?_⟩;cases op <;> first | rfl | cases hq
  .have hqm:=iv.pn q hq';exact ⟨hqm.hi,hqm.hd,hqm.hg,hqm.lt,hqm.fr,by rw [T.get_put];split;rfl;exact hqm.noσ,hqm.un,hqm.rdy,hqm.ap,hqm.run,hqm.ex,hqm.nq⟩
 .refine List.pairwise_cons.2 ⟨λq hq=>⟨λe=>hno ((iv.op i).2 ⟨q,hq,e.symm⟩),λe=>?_,λc hc=>(by cases hc)⟩,iv.pw⟩;have:=(iv.pn q hq).noσ;have e:d=q.dst:=e;rw [← e,hd] at this;cases this
 .rw [List.mem_append,iv.op j,List.mem_singleton]
  constructor
  .rintro (⟨q,hq,e⟩ | rfl)
   .exact ⟨q,List.mem_cons_of_mem _ hq,e⟩
   .exact ⟨_,List.mem_cons_self ..,rfl⟩
  .rintro ⟨q,hq,e⟩
   rcases List.mem_cons.1 hq with rfl | hq
   .exact .inr e.symm
   .exact .inl ⟨q,hq,e⟩
end
end Go.Lk
namespace Go.Lk
open Go.Eng Go.RowKit
section
variable {β:Type} [Jn β] [JnOK β] {Pr:Program} {ops:Array Oper} {m:Nat} {w0:Base} {ρ0:Ren} {ds:List D} {dsr:List Deferred} {Q:Exit->Act->World->Prop} {r:β} {k:KN β} {run:fG}
theorem rT {Ss:List (Nat × (World->Prop))} {S:World->Prop} {i:Nat} {oi:Oper} {v:Value} (hi:ops[i]?=some oi) (hsel:Region.noSelect ops=true) (hQ:∀ c a a' w,Q (.panic c) a w->Q (.panic c) a' w)
  {fuel:Nat} {listed:Array Bool} {a:Act} {w:World} (hcl:Closed ops listed) (hfree:∀ j oj,ops[j]?=some oj->j≠i->listed.getD j true=false->(∀ e ∈ oj.after,Region.binds .any e=true->e.on≠i)->oi.apart ops oj=true)
  (hr:i ∈ Region.ready .any ops listed) (hy:YieldsIf Pr ops S oi v a) (hS:S w)
  (H:tZ Pr ops Q (vz ops ((i,S)::Ss)) fuel (listed.setIfInBounds i true) (a.put oi.dst v) w):tZ Pr ops Q (vz ops Ss) (fuel+1) listed a w:=
 pB (λ_ _ _ h x hx=>h x (List.mem_cons_of_mem _ hx)) _ _ _ _
  (BA hi (Region.noSelect_spec hsel) (λc _ w=>hQ c _ _ w) (λ_ hji hno _ _ hw hp=>hp (i,S) (List.mem_cons_self ..) (Ne.symm hji) hno hw) (λ_ _ _ _ _ h=>h) fuel listed a w hcl hfree hr hy hS H)
theorem IV.claim {K:Nat->Option Obj} {ρ:Ren} {σ:T V} {τ:Nat->Value} {h:T Blk} {n:P} {w:World} {l A:Array Bool} {opn qs:List Nat} {cs:List Cl} {pd:List Pn} (iv:IV Pr ops m w0 K ρ σ τ ds dsr h n w l A opn qs cs pd) (c:Cl) (hc:c.ρ.le ρ/\((∀ h,c.q h=some c.v)\/c.i ∈ qs)) :
  IV Pr ops m w0 K ρ σ τ ds dsr h n w l A opn qs (c::cs) pd:=⟨iv.fr,iv.df,iv.cls,iv.le,λx hx=>by
   rcases List.mem_cons.1 hx with rfl | hx
   .exact hc
   .exact iv.cl x hx,iv.hp,iv.k0,iv.kp,iv.pn,iv.pw,iv.op⟩
theorem sO (l1 l2:List Pn) (p:Pn):Ff (l1++p::l2)=Ff (l1++l2)+(bif p.c.isNone then 1 else 0):=by
 unfold Ff;rw [List.countP_append,List.countP_cons,List.countP_append];cases p.c.isNone <;> simp <;> omega
theorem yA (s:PS) (L:List PS):ek (β:=β) Pr ops (s::L)=(PS.rec
  (λi=>Option.rec (λ_ _ _ _ _ _ _ _=>none) (λo=>λcs pd run σ ds h n k=>pF ops o σ (on (gU Pr o.op σ h) λv=>ek Pr ops L ((i,(λh=>gU Pr o.op σ h),v)::cs) pd run (ep o.dst v σ) ds h n k) (ek Pr ops L cs pd run (ep o.dst aS σ) ds h n k)) (ops[i]?))
  (λi chk=>Option.rec (λ_ _ _ _ _ _ _ _=>none) (λo=>λcs pd run σ ds h n k=>Bool.rec (pF ops o σ (ye Pr o.op run σ h n λv h n=>o5 chk h (ek Pr ops L cs pd run (ep o.dst v σ) ds h n k) cs) (ek Pr ops L cs pd run (ep o.dst aS σ) ds h n k)) none (dK o.op)) (ops[i]?))
  (λi=>Option.rec (λ_ _ _ _ _ _ _ _=>none) (λo=>λcs pd run σ ds h n k=>Option.rec none (λd=>on (T.get (aB d) σ) λ_=>on (gP Pr o.op σ n) λ_=>ek Pr ops L cs ((i,λn=>gP Pr o.op σ n)::pd) run (T.put none (aB d) σ) ds h n k) o.dst) (ops[i]?))
  (λi=>Option.rec (λ_ _ _ _ _ _ _ _=>none) (λo=>λcs pd run σ ds h n k=>Option.rec none (λd=>rG i pd λmk rest=>on (mk n) λBv=>ek Pr ops L cs rest run (T.put (some Bv.2) (aB d) σ) ds (T.put (some Bv.1) n h) (P.succ n) k) o.dst) (ops[i]?)) s:SX β):=have _:True:=(λ(_:JnOK β)=>trivial) inferInstance;rfl
theorem H9 (hr:RunOK Pr run) (hsel:Region.noSelect ops=true) (hQ:∀ a w,KQ w0 ρ0 m r k a w->Q .normal a w) (hQp:∀ c a a' w,Q (.panic c) a w->Q (.panic c) a' w) :
  ∀ (L:List PS) (u fuel:Nat) (K:Nat->Option Obj) (ρ:Ren) (σ:T V) (τ:Nat->Value) (h:T Blk) (n:P) (w:World) (l A:Array Bool) (opn qs:List Nat) (cs:List Cl) (pd:List Pn),ρ0.le ρ->IV Pr ops m w0 K ρ σ τ ds dsr h n w l A opn qs cs pd->zK Pr ops L l opn qs=true->
   ek Pr ops L (cs.map Cl.abs) (pd.map Pn.abs) run σ ds h n k=some r->Ff pd=u->nN L+u<=fuel->tZ Pr ops Q (vz ops (cs.map Cl.S)) fuel A (F m τ dsr) w:=by
 have hsel':=Region.noSelect_spec hsel;intro L
 induction L with
 | nil=>
  intro u fuel K ρ σ τ h n w l A opn qs cs pd hle iv hok e hu hf
  simp only [zK,Bool.and_eq_true,List.isEmpty_iff] at hok
  obtain ⟨h1,h2⟩:=hok
  subst h1
  have hpd:pd=[]:=by
   cases pd with
   | nil=>rfl
   | cons p pd=>exact absurd ((iv.op p.i).2 ⟨p,List.mem_cons_self ..,rfl⟩) (by simp)
  subst hpd
  have hA:A=l:=by
   apply Array.ext_getElem?;intro j;rw [iv.le.2 j];rfl
  subst hA
  have hrd:Region.ready .any ops A=[]:=by simpa using h2
  have hQn:Q .normal (F m τ dsr) w:=hQ _ _ ⟨ρ,σ,ds,h,n,hle,⟨⟨τ,dsr,rfl,iv.fr,iv.df⟩,iv.hp.weak iv.k0⟩,e⟩
  cases fuel with
  | zero=>exact ⟨hrd,hQn⟩
  | succ f=>exact ⟨λ_=>hQn,by rw [hrd];simp⟩
 | cons s L ih=>
  intro u
  induction u using Nat.strongRecOn with
  | _ u ihu=>
  intro fuel K ρ σ τ h n w l A opn qs cs pd hle iv hok e hu hf
-- one that waits is carried out ahead of what the plan says
  have early:∀ f,fuel=f+1->∀ j ∈ opn,j ∈ Region.ready .any ops A->KZ Pr ops Q j (λa' w'=>vz ops (cs.map Cl.S) j w w'/\tZ Pr ops Q (vz ops (cs.map Cl.S)) f (A.setIfInBounds j true) a' w') (F m τ dsr) w:=by
   intro f hff j hj hjr;obtain ⟨p,hp,rfl⟩:=(iv.op j).1 hj;have hpm:=iv.pn p hp
   have hpc:p.c=none:=by
    have:=(iv.le.un (mem_ready.1 hjr).1).2
    cases hc:p.c with
    | none=>rfl
    | some c=>rw [Ps hp rfl (by rw [hc];rfl)] at this;cases this
   obtain ⟨l1,l2,rfl⟩:=List.append_of_mem hp;have iv':=iv.exec hsel' hpc;have hun:=sO l1 l2 p;have hun':=sO l1 l2 { p with c:=some w.heap.size };rw [hpc] at hun;simp only [Option.isNone_none,Option.isNone_some,cond_true,cond_false] at hun hun';unfold KZ wpOpIn;simp only [hpm.hi];have hw:Region.wanted p.o (yielded ops (F m τ dsr).tmps)=true:=by unfold Region.wanted;rw [hpm.hg]
   rw [if_pos hw];refine ⟨λ_ _=>trivial,?_⟩;rw [show Oper.semAt Fence.wide.round (F m τ dsr).eval p.o=execOp (F m τ dsr).eval p.o from Oper.semAt_none _ _,hpm.run hpc w,Oper.uponIn_value,hpm.hd,fT];refine ⟨λx hx _ _ hS=>?_,ihu (Ff (l1++l2)) (by omega) f _ ρ σ _ h n _ l _ opn qs cs _ hle iv' hok ?_ (by omega) (by omega)⟩
   .obtain ⟨c,_,rfl⟩:=List.mem_map.1 hx;exact CS.alloc hS _
   .rw [← e]
    congr 1
    simp [Pn.abs]
  rw [yA] at e
  cases s with
  | q i=>
   dsimp only at e
   simp only [zK,Bool.and_eq_true] at hok
   obtain ⟨⟨⟨hq,hfree⟩,hrl⟩,hok⟩:=hok
   have hrl:i ∈ Region.ready .any ops l:=by simpa using hrl
   cases hi:ops[i]? with
   | none=>rw [hi] at e;cases e
   | some o=>
    rw [hi] at e
    unfold tY at hq
    rw [hi] at hq
    replace hq:dJ Pr o.op=true:=hq
    have hno:i ∉ opn:=λhin=>by
     obtain ⟨p,hp,rfl⟩:=(iv.op i).1 hin;have hpm:=iv.pn p hp;have:=hpm.hi;rw [hi] at this;cases this
     rw [hpm.nq] at hq;cases hq
    obtain ⟨f,rfl⟩:∃ f,fuel=f+1:=⟨fuel-1,by simp only [nN] at hf;omega⟩
    have hrA:=rR iv.le hrl (iv.notex hno)
    have hfr:∀ j oj,ops[j]?=some oj->j≠i->A.getD j true=false->(∀ e ∈ oj.after,Region.binds .any e=true->e.on≠i)->o.apart ops oj=true:=λj oj hj hji hjun hjno=>Region.free_spec hi hfree j oj hj hji (iv.le.un hjun).1 hjno
    have hqs:∀ j ∈ qs,j ∈ (if tY ops dZ i then qs else i::qs):=λj hj=>by split;exact hj;exact List.mem_cons_of_mem _ hj
    have hcost:nN L+u<=f:=by simp only [nN] at hf;omega
    rcases pX (ds:=dsr) iv.fr e with ⟨hw,e1⟩ | ⟨hw,e1⟩
    .rw [ah] at e1
     obtain ⟨v,hv,e2⟩:=e1
     obtain ⟨x,hex,hxv⟩:=tH (ty:=o.type) iv.hp iv.fr hq hv
     refine rT hi hsel hQp iv.cls hfr hrA (S:=CS ρ (λh=>gU Pr o.op σ h) v) (.inl ⟨hw,λw' hS=>?_⟩) ⟨_,ρ,h,n,.refl _,iv.hp,hv⟩ ?_ (v:=x)
     .obtain ⟨b,ρ',h',n',hle',H',hv'⟩:=hS
      obtain ⟨y,hey,hyv⟩:=tH (ty:=o.type) H' (iv.fr.mono hle') hq hv'
      have:=Rv.fn' v y x hyv (hxv.mono hle')
      subst this
      rw [aP];exact hey o.dst o.pos o.after o.guard
     .rw [JC]
      refine ih u f K ρ _ _ h n w _ _ opn _ (⟨i,ρ,λh=>gU Pr o.op σ h,v⟩::cs) pd hle ((iv.step hsel' hi hrl hno (.refl _) hxv iv.hp hqs).claim _ ⟨.refl _,?_⟩) hok e2 hu hcost
      cases hs:tY ops dZ i with
      | true=>
       refine .inl λh2=>?_
       unfold tY at hs
       rw [hi] at hs
       show gU Pr o.op σ h2=some v
       rw [F5 hs h2 h];exact hv
      | false=>simp only [Bool.false_eq_true,if_false];exact .inr (List.mem_cons_self ..)
    .refine rT hi hsel hQp iv.cls hfr hrA (S:=λ_=>True) (.inr ⟨hw,rfl⟩) trivial ?_ (v:=undef)
     rw [JC]
     refine pB (λj w w' hk x hx h1 h2 h3=>?_) _ _ _ _ (ih u f K ρ _ _ h n w _ _ opn _ cs pd hle (iv.step hsel' hi hrl hno (.refl _) fK iv.hp hqs) hok e1 hu hcost)
     rcases List.mem_cons.1 hx with rfl | hx
     .trivial
     .exact hk x hx h1 h2 h3
  | e i chk=>
   dsimp only at e
   simp only [zK,Bool.and_eq_true] at hok
   obtain ⟨⟨⟨hrm,hrl⟩,hall⟩,hok⟩:=hok
   have hrl:i ∈ Region.ready .any ops l:=by simpa using hrl
   have hrm:Region.ready .any ops (mark opn l)=[i]:=by simpa using hrm
   cases hi:ops[i]? with
   | none=>rw [hi] at e;cases e
   | some o=>
    rw [hi] at e
    obtain ⟨f,rfl⟩:∃ f,fuel=f+1:=⟨fuel-1,by simp only [nN] at hf;omega⟩
    have hcost:nN L+u<=f:=by simp only [nN] at hf;omega
    have hno:i ∉ opn:=λhin=>by
     have h1:i ∈ Region.ready .any ops (mark opn l):=by rw [hrm];simp
     have h2:=dC.1 (mem_ready.1 h1).1;rw [(ol opn l).2] at h2;have:opn.contains i=true:=by simpa using hin
     rw [this] at h2;cases hl:l[i]? <;> rw [hl] at h2 <;> cases h2
    have hrA:=rR iv.le hrl (iv.notex hno)
    refine ⟨λh0=>(by rw [h0] at hrA;cases hrA),λj hj=>?_⟩
    have hcase:j ∈ opn\/j=i:=by
     rcases pY iv.le (S:=opn) (λp hp _=>(iv.op p.i).2 ⟨p,hp,rfl⟩) hj with h1 | h1
     .exact .inl h1
     .rw [hrm] at h1;exact .inr (by simpa using h1)
    rcases hcase with hjo | rfl
    .exact early f rfl j hjo hj
    replace e:Bool.rec (pF ops o σ (ye Pr o.op run σ h n λv h n=>o5 chk h (ek Pr ops L (cs.map Cl.abs) (pd.map Pn.abs) run (ep o.dst v σ) ds h n k) (cs.map Cl.abs)) (ek Pr ops L (cs.map Cl.abs) (pd.map Pn.abs) run (ep o.dst aS σ) ds h n k)) none (dK o.op)=some r:=e
    rw [jq] at e
    obtain ⟨hnd,e⟩:=e
    unfold KZ wpOpIn
    simp only [hi]
    rcases pX (ds:=dsr) iv.fr e with ⟨hw,e1⟩ | ⟨hw,e1⟩
    .rw [if_pos hw]
     refine ⟨λ_ _=>trivial,?_⟩
     rw [show Oper.semAt Fence.wide.round (F m τ dsr).eval o=execOp (F m τ dsr).eval o from Oper.semAt_none _ _]
     refine I6 β Pr m o.op o.type run hr none ⟨w0.w,K⟩ ρ σ τ h n _ r w iv.fr iv.hp e1 hnd o.dst o.pos o.after o.guard dsr _ Q λx w' q=>?_
     obtain ⟨ρ',v,h',n',hle',H',hv,e2⟩:=q
     obtain ⟨e3,hc⟩:=km e2
     refine ⟨λy hy hne hre hS=>?_,?_⟩
     .obtain ⟨c,hcm,rfl⟩:=List.mem_map.1 hy
      obtain ⟨c1,c2⟩:=iv.cl c hcm
      refine ⟨_,ρ',h',n',c1.trans hle',H',?_⟩
      rcases c2 with c2 | c2
      .exact c2 h'
      .have h1:=List.all_eq_true.1 hall c.i c2
       simp only [Bool.or_eq_true,beq_iff_eq] at h1
       have hne:c.i≠j:=hne
       have hre:reach ops c.i 5 j=false:=hre
       rcases h1 with (h1 | h1) | h1
       .exact absurd h1 hne
       .rw [hre] at h1;cases h1
       .exact hc c.abs (List.mem_map.2 ⟨c,hcm,rfl⟩) (by show c.i ∈ chk;simpa using h1)
     .rw [JC]
      exact ih u f K ρ' _ _ h' n' w' _ _ opn qs cs pd (hle.trans hle') (iv.step hsel' hi hrl hno hle' hv H' (λ_ h=>h)) hok e3 hu hcost
    .rw [if_neg (by rw [hw];simp)]
     refine ⟨λ_ _=>trivial,λ_ _ _ _ h=>h,?_⟩
     rw [JC]
     exact ih u f K ρ _ _ h n w _ _ opn qs cs pd hle (iv.step hsel' hi hrl hno (.refl _) fK iv.hp (λ_ h=>h)) hok e1 hu hcost
  | o i=>
   dsimp only at e
   simp only [zK,Bool.and_eq_true,Bool.not_eq_true'] at hok
   obtain ⟨⟨⟨⟨hfa,hfree⟩,hrl⟩,hno⟩,hok⟩:=hok
   have hrl:i ∈ Region.ready .any ops l:=by simpa using hrl
   have hno:i ∉ opn:=λhin=>by
    have:opn.contains i=true:=by simpa using hin
    rw [this] at hno;cases hno
   unfold vT at hfa
   cases hi:ops[i]? with
   | none=>rw [hi] at e;cases e
   | some o=>
    rw [hi] at e hfa
    obtain ⟨dst,op,ty,pos,af,g⟩:=o
    cases dst with
    | none=>cases hfa
    | some d=>
     cases g with
     | some _=>cases hfa
     | none=>
      replace e:(on (T.get (aB d) σ) λ_=>on (gP Pr op σ n) λ_=>ek Pr ops L (cs.map Cl.abs) ((i,λn=>gP Pr op σ n)::pd.map Pn.abs) run (T.put none (aB d) σ) ds h n k)=some r:=e
      simp only [ah] at e
      obtain ⟨x,hx,a,ha,e⟩:=e
      obtain ⟨p,h1,h2,iv'⟩:=iv.open hi hfa hrl hno hfree hx ha
      refine ih (u+1) fuel K ρ _ τ h n w l A _ qs cs (p::pd) hle iv' hok ?_ ?_ (by simp only [nN] at hf;omega)
      .rw [List.map_cons,h1];exact e
      .unfold Ff at hu ⊢
       rw [List.countP_cons,h2];simp [hu]
  | f i=>
   dsimp only at e
   simp only [zK,Bool.and_eq_true] at hok
   obtain ⟨⟨hin,hrm⟩,hok⟩:=hok
   have hin:i ∈ opn:=by simpa using hin
   have hrm:Region.ready .any ops (mark (opn.filter (· != i)) l)=[i]:=by simpa using hrm
   cases hi:ops[i]? with
   | none=>rw [hi] at e;cases e
   | some o=>
    rw [hi] at e
    cases hd:o.dst with
    | none=>
     replace e:(Option.rec none (λd=>rG i (pd.map Pn.abs) λmk rest=>on (mk n) λBv=>ek Pr ops L (cs.map Cl.abs) rest run (T.put (some Bv.2) (aB d) σ) ds (T.put (some Bv.1) n h) (P.succ n) k) o.dst:Option β)=some r:=e
     rw [hd] at e;cases e
    | some d=>
     replace e:(Option.rec none (λd=>rG i (pd.map Pn.abs) λmk rest=>on (mk n) λBv=>ek Pr ops L (cs.map Cl.abs) rest run (T.put (some Bv.2) (aB d) σ) ds (T.put (some Bv.1) n h) (P.succ n) k) o.dst:Option β)=some r:=e
     rw [hd] at e
     replace e:(rG i (pd.map Pn.abs) λmk rest=>on (mk n) λBv=>ek Pr ops L (cs.map Cl.abs) rest run (T.put (some Bv.2) (aB d) σ) ds (T.put (some Bv.1) n h) (P.succ n) k)=some r:=e
     obtain ⟨a1,a2,mk,hpd,e1⟩:=Ae e
     rw [ah] at e1
     obtain ⟨⟨B,v⟩,hm,e2⟩:=e1
     obtain ⟨l1,l2',rfl,h1,h2⟩:=List.map_eq_append_iff.1 hpd
     obtain ⟨p,l2,rfl,h3,h4⟩:=List.map_eq_cons_iff.1 h2
     have hpi:p.i=i:=congrArg Prod.fst h3
     have hpmk:p.mkB=mk:=congrArg Prod.snd h3
     subst hpi hpmk h1 h4
     have hpm:=iv.pn p (bB.2 (.inr rfl))
     have:=hpm.hi
     rw [hi] at this
     cases this
     have hdd:=hpm.hd
     rw [hd] at hdd
     cases hdd
     have hun:=sO l1 l2 p
     cases hpc:p.c with
     | some c=>
      rw [hpc] at hun
      simp only [Option.isNone_some,cond_false] at hun
      refine ih u fuel _ _ _ τ _ _ w _ A _ qs cs (l1++l2) (hle.trans (Ren.le_put iv.hp.free)) (iv.flush hpc hm) hok ?_ (by omega) (by simp only [nN] at hf;omega)
      rw [List.map_append];exact e2
     | none=>
      rw [hpc] at hun
      simp only [Option.isNone_none,cond_true] at hun
      obtain ⟨f,rfl⟩:∃ f,fuel=f+1:=⟨fuel-1,by simp only [nN] at hf;omega⟩
      have hrA:=iv.rdy hpc
      have hS:∀ q ∈ l1++p::l2,q.c.isSome=true->q.i ∈ opn.filter (· != p.i):=λq hq hqc=>by
       refine List.mem_filter.2 ⟨(iv.op q.i).2 ⟨q,hq,rfl⟩,?_⟩
       rcases bB.1 hq with hq' | rfl
       .have:=(iv.split.1 q hq').1;simp only [bne_iff_ne,ne_eq];exact λe=>this e.symm
       .rw [hpc] at hqc;cases hqc
      refine ⟨λh0=>(by rw [h0] at hrA;cases hrA),λj hj=>early f rfl j ?_ hj⟩
      rcases pY iv.le hS hj with h5 | h5
      .exact (List.mem_filter.1 h5).1
      .rw [hrm] at h5
       have:j=p.i:=by simpa using h5
       rw [this];exact hin
theorem uC (hm:Pr.follows .mixedOrders=true) (m:Nat) (id:Nat) (ops:Array Oper) (draw:Bool):EXok (β:=β) Pr m (λrun rd σ ds h n kn _=>Ir Pr ops draw run rd σ ds h n kn) (.region id ops draw):=by
 cases draw with
 | false=>exact wZ (I6 β Pr m) id ops
 | true=>
  intro run hr rd rr w0 ρ σ ds h n kn kx r a w hrd hs e
  replace e:(Bool.rec (λ_ _ _ _ _ _ _=>none) (λrun rd σ ds h n k=>Option.rec (ek Pr ops (oU Pr ops) [] [] run σ ds h n k) (λ_=>none) rd) (CT Pr ops):fG->Option P->T V->List D->T Blk->P->KN β->Option β) run rd σ ds h n kn=some r:=e
  cases hfit:CT Pr ops with
  | false=>rw [hfit] at e;cases e
  | true=>
   rw [hfit] at e
   cases rd with
   | some _=>cases e
   | none=>
    cases rr with
    | some _=>exact hrd.elim
    | none=>
     unfold CT at hfit
     rw [EF,Bool.and_eq_true,Bool.and_eq_true] at hfit
     obtain ⟨⟨τ,dsr,rfl,hf,hd⟩,H⟩:=hs
     refine wpIn_region_any (F:=Fence.wide) hm (yZ (Po:=vz ops []) _ _ _ _ ?_)
     have hcost:nN (oU Pr ops)<=ops.size:=Nat.le_of_ble_eq_true hfit.1.2
     exact H9 (Q:=PQ w0 ρ m r kn kx) hr hfit.1.1 (λ_ _ q=>q) (λ_ _ _ _ q=>q) (oU Pr ops) 0 ops.size w0.keep ρ σ τ h n w.drew _ _ [] [] [] [] (.refl _)
      ⟨hf,hd,Closed.none _,⟨rfl,λ_=>rfl⟩,by simp,H.drew,λ_ _ h=>h,by simp,by simp,.nil,by simp⟩ (sB _ _ _ _ _ .zero (by simp) hfit.2) e rfl (by omega)
end
end Go.Lk
