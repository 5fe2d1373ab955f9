/- A lean reckoner for closed runs: regions that draw their order, what they need. Over any program. -/
import Derived.Test.YtljfgmedbjlkaaaGreatLkS
import Derived.Test.YtljfgmedbjlkaaaGreatLkQ
namespace Go.Lk
open Go.Eng Go.RowKit
mutual
theorem Rv.fn' {ρ:Ren}:∀ (v:V) (x y:Value),Rv ρ v x→Rv ρ v y→x=y
 | .int ..,x,y,h,g | .bool _,x,y,h,g | .pnil,x,y,h,g | .snil,x,y,h,g | .fnil,x,y,h,g | .mnil,x,y,h,g | .inil,x,y,h,g | .flt _,x,y,h,g=>by simp only [Rv] at h g;rw [h,g]
 | .str _,x,y,h,g=>by
  simp only [Rv] at h g
  obtain ⟨s,rfl,h⟩:=h
  obtain ⟨s',rfl,g⟩:=g
  rw [bytesOf_inj (h.trans g.symm)]
 | .ptr ..,x,y,h,g | .yield _,x,y,h,g | .map _,x,y,h,g=>by
  simp only [Rv] at h g
  obtain ⟨L,hL,rfl⟩:=h
  obtain ⟨L',hL',rfl⟩:=g
  rw [hL] at hL';cases hL';rfl
 | .sl b i l c,x,y,h,g=>by
  simp only [Rv] at h g
  obtain ⟨L,k,p,hL,rfl,h,_⟩:=h
  obtain ⟨L',k',p',hL',rfl,g,_⟩:=g
  rw [hL] at hL';cases hL'
  obtain ⟨rfl,rfl⟩:=h.fn g
  rfl
 | .fn f a b,x,y,h,g=>by
  simp only [Rv] at h g
  obtain ⟨a1,b1,rfl,h1,h2⟩:=h
  obtain ⟨a2,b2,rfl,g1,g2⟩:=g
  rw [Array.ext' (Rvs.fn' a _ _ h1 g1),Array.ext' (Rvs.fn' b _ _ h2 g2)]
 | .iface t v,x,y,h,g=>by
  simp only [Rv] at h g
  obtain ⟨a,rfl,h⟩:=h
  obtain ⟨b,rfl,g⟩:=g
  rw [Rv.fn' v a b h g]
 | .agg l,x,y,h,g | .tup l,x,y,h,g=>by
  simp only [Rv] at h g
  obtain ⟨a,rfl,h⟩:=h
  obtain ⟨b,rfl,g⟩:=g
  rw [Array.ext' (Rvs.fn' l _ _ h g)]
theorem Rvs.fn' {ρ:Ren}:∀ (l:List V) (xs ys:List Value),Rvs ρ l xs→Rvs ρ l ys→xs=ys
 | [],xs,ys,h,g=>by simp only [Rvs] at h g;rw [h,g]
 | v::l,xs,ys,h,g=>by
  simp only [Rvs] at h g
  obtain ⟨x,r,rfl,h1,h2⟩:=h
  obtain ⟨y,s,rfl,g1,g2⟩:=g
  rw [Rv.fn' v x y h1 g1,Rvs.fn' l r s h2 g2]
end
section
variable {ρ:Ren} {Pr:Program} {m:Nat} {w:World} {σ:T V} {τ:Nat→Value} {h:T Blk} {n:P} {β:Type} {r:β}
/-! ### Blocks that nobody tells of yet -/
theorem Rh.spare {b:World} {K:Nat→Option Obj} (H:Rh ⟨b,K⟩ ρ h n w) (o:Obj):Rh ⟨b,fun c=>if c=w.heap.size then some o else K c⟩ ρ h n (w.alloc o):=by
 have hal:Al w (w.alloc o) o:=⟨rfl⟩
 have hb:b.heap.size≤w.heap.size:=H.old.size
 refine ⟨H.old.trans (hal.ext.mono hb),fun c o' hk=>?_,fun x B L hx hL=>?_,fun x L hL=>?_,fun x B L hx hL=>?_,H.apart⟩
 ·simp only at hk
  split at hk
  ·rename_i hc;cases hk;subst hc;exact hal.new
  ·have h1:=H.kept c o' hk
   rw [hal.old (Array.getElem?_eq_some_iff.1 h1).1];exact h1
 ·have:=H.new x L hL
  have hs:=H.safe x B L hx hL
  simp only
  rw [if_neg (by omega)];exact hs
 ·have:=H.new x L hL
  rw [hal.size];exact ⟨this.1,by omega,this.2.2⟩
 ·have:=H.new x L hL
  rw [hal.old this.2.1];exact H.live x B L hx hL
theorem Rh.adopt {b:World} {K:Nat→Option Obj} (H:Rh ⟨b,K⟩ ρ h n w) {c:Nat} {o:Obj} (hk:K c=some o) (hc:b.heap.size≤c) {L:Loc} (hL:L.c=c) {B:Blk} (hB:Rb (ρ.put n L) L (some o) B) :
  Rh ⟨b,fun x=>if x=c then none else K x⟩ (ρ.put n L) (T.put (some B) n h) n.succ w:=by
 have hfree:=H.free
 have hkept:=H.kept c o hk
 have other:∀ x X M,T.get x h=some X→ρ x=some M→M.c≠c:=fun x X M hx hM e=>by
  have:=H.safe x X M hx hM
  rw [e] at this
  simp only at this
  rw [hk] at this;cases this
 refine ⟨H.old,fun x o' hx=>?_,fun x X M hx hM=>?_,fun x M hM=>?_,fun x X M hx hM=>?_,fun x y X Y M N hx hy hM hN hcc=>?_⟩
 ·simp only at hx
  split at hx
  ·cases hx
  ·exact H.kept x o' hx
 ·simp only
  split
  ·rfl
  ·rename_i hne
   rw [T.get_put] at hx
   by_cases e:x=n
   ·subst e
    rw [Ren.put_same] at hM;cases hM
    exact absurd hL hne
   ·rw [if_neg e] at hx
    simp only [Ren.put,if_neg e] at hM
    exact H.safe x X M hx hM
 ·by_cases e:x=n
  ·subst e
   rw [Ren.put_same] at hM;cases hM
   rw [hL,P.num_succ]
   exact ⟨hc,(Array.getElem?_eq_some_iff.1 hkept).1,by omega⟩
  ·simp only [Ren.put,if_neg e] at hM
   have:=H.new x M hM
   rw [P.num_succ];exact ⟨this.1,this.2.1,by omega⟩
 ·rw [T.get_put] at hx
  by_cases e:x=n
  ·subst e
   rw [if_pos rfl] at hx;cases hx
   rw [Ren.put_same] at hM;cases hM
   rw [hL,hkept];exact hB
  ·rw [if_neg e] at hx
   simp only [Ren.put,if_neg e] at hM
   exact (H.live x X M hx hM).mono (Ren.le_put hfree)
 ·rw [T.get_put] at hx hy
  by_cases e1:x=n <;> by_cases e2:y=n
  ·rw [e1,e2]
  ·subst e1
   rw [Ren.put_same] at hM;cases hM
   rw [if_neg e2] at hy
   simp only [Ren.put,if_neg e2] at hN
   exact absurd (hcc.symm.trans hL) (other y Y N hy hN)
  ·subst e2
   rw [Ren.put_same] at hN;cases hN
   rw [if_neg e1] at hx
   simp only [Ren.put,if_neg e1] at hM
   exact absurd (hcc.trans hL) (other x X M hx hM)
  ·rw [if_neg e1] at hx
   rw [if_neg e2] at hy
   simp only [Ren.put,if_neg e1] at hM
   simp only [Ren.put,if_neg e2] at hN
   exact H.apart x y X Y M N hx hy hM hN hcc
theorem Rh.weak {b:World} {K K':Nat→Option Obj} (H:Rh ⟨b,K⟩ ρ h n w) (hk:∀ c o,K' c=some o→K c=some o):Rh ⟨b,K'⟩ ρ h n w:=
 ⟨H.old,fun c o e=>H.kept c o (hk c o e),(fun x B L hx hL=>by
  have:=H.safe x B L hx hL
  simp only at this ⊢
  cases he:K' L.c with
  | none=>rfl
  | some o=>rw [hk _ _ he] at this;cases this),H.new,H.live,H.apart⟩
/-! ### New blocks that may come early -/
theorem zcT_all {t:TypeId} {z:List V} (hz:zcT Pr t=some z):∃ x,ZV Pr t x∧∀ ρ:Ren,Rvs ρ z x.cells.toList:=by
 unfold zcT at hz
 rw [on_some] at hz
 obtain ⟨v,hv,hz⟩:=hz
 rw [onCells_some] at hz
 obtain ⟨ht,hz⟩:=hz
 cases hz
 unfold zeroT at hv
 cases hi:Pr.info? t with
 | none=>rw [hi] at hv;cases hv
 | some i=>
  rw [hi] at hv
  cases hz:i.zero with
  | none=>simp [hz] at hv
  | some x=>
   simp [hz] at hv
   exact ⟨x,fun w=>by simp [zeroValue,typeInfo,Sem.run_bind,hi,hz],fun ρ=>cellsV_rel ((ofVal_sound ρ 600).1 _ _ hv) ht⟩
theorem fresh_ok {op:Op} (hq:freshOp op=true) (f:Fr ρ m σ τ) {n0:P} {a:Blk × V} (e:freshX Pr op σ n0=some a) (ty:TypeId):∃ (obj:Obj) (xv:Nat→Value) (cap k:Nat),(∀ w,∀ dst pos af g,(execOp (ev m τ) ⟨dst,op,ty,pos,af,g⟩).run Pr w= .ok (.value (xv w.heap.size)) (w.alloc obj))∧
  ∀ n B v,freshX Pr op σ n=some (B,v)→∀ ρ':Ren,∀ c,Rb ρ' ⟨c,0,cap,k⟩ (some obj) B∧(ρ' n=some ⟨c,0,cap,k⟩→Rv ρ' v (xv c)):=by
 cases op <;> first | (cases hq;done) | skip
 case alloc t=>
  cases hz:zcT Pr t with
  | none=>
   replace e:(Option.rec (fun _ _ _ _ _=>none) (fun z _ _ h n k=>newB (rowB t z) (.ptr n 0 0) h n k) (zcT Pr t):OX (Blk × V)) (fun _ _ _=>none) σ .e n0 (fun v h _=>on (T.get n0 h) fun B=>some (B,v))=some a:=e
   rw [hz] at e;cases e
  | some z=>
   obtain ⟨zv,hzv,hall⟩:=zcT_all hz
   refine ⟨.cells zv.cells t (0,0),fun c=>.pointer (some ⟨c,0,none⟩),1,z.length,fun w _ _ _ _=>?_,fun n B v e ρ' c=>?_⟩
   ·have h:=hzv w
    simp [execOp,Instr.alloc,h,newVar,newRow,newObj,Sem.run]
   ·replace e:(Option.rec (fun _ _ _ _ _=>none) (fun z _ _ h n k=>newB (rowB t z) (.ptr n 0 0) h n k) (zcT Pr t):OX (Blk × V)) (fun _ _ _=>none) σ .e n (fun v h _=>on (T.get n h) fun B=>some (B,v))=some (B,v):=e
    rw [hz] at e
    replace e:on (T.get n (T.put (some (rowB t z)) n .e)) (fun B=>some (B,V.ptr n 0 0))=some (B,v):=e
    rw [T.get_put_same] at e
    cases e
    have hr:=hall ρ'
    have hR:=Rb.rows (ρ:=ρ') (c:=c) (t:=t) (rs:=[z]) (k:=z.length) (by simp) (by simpa using hr)
    refine ⟨?_,fun hρ=>?_⟩
    ·unfold rowB;rw [lenL_eq];exact hR
    ·simp only [Rv];exact ⟨_,hρ,by simp⟩
 case makeMap t rs=>
  cases rs with
  | some=>cases hq
  | none=>
   refine ⟨.map #[] 0,fun c=>.map (some c),0,0,fun w _ _ _ _=>by simp [execOp,Instr.makeMap,newObj,Sem.run],fun n B v e ρ' c=>?_⟩
   replace e:on (T.get n (T.put (some (.map [] 0)) n .e)) (fun B=>some (B,V.map n))=some (B,v):=e
   rw [T.get_put_same] at e
   cases e
   exact ⟨⟨#[],rfl,.nil,by simp⟩,fun hρ=>by simp only [Rv];exact ⟨_,hρ,rfl⟩⟩
 case makeSlice t x y=>
  have key:∀ {n:P} {a:Blk × V},freshX Pr (.makeSlice t x y) σ n=some a→makeSliceX Pr t x y (fun _ _ _=>none) σ .e n (fun v h _=>on (T.get n h) fun B=>some (B,v))=some a:=fun e=>e
  have e:=key e
  unfold makeSliceX at e
  cases hB:sliceB Pr t with
  | none=>rw [hB] at e;cases e
  | some a'=>
   obtain ⟨el,kk,z⟩:=a'
   rw [hB] at e
   simp only at e
   simp only [on_some,onNat_some,ifT_some,repL_eq] at e
   obtain ⟨_,hx,_,hy,kl,l,rfl,kc,c,rfl,h1,h2,h3,_⟩:=e
   have h1:=Nat.le_of_ble_eq_true h1
   have h2:=Nat.le_of_ble_eq_true h2
   have h3:Nat.mul (bytesT Pr el) c≤281474976710656:=Nat.le_of_ble_eq_true h3
   obtain ⟨hu,hZ⟩:=sliceB_spec hB
   obtain ⟨i,zr,hi,hz,hk,hpos,hzl,hzv⟩:=elZ_spec hZ
   simp only at hu hi hk hpos hzl hzv
   subst hk
   have hzs:zr.cells.size=i.size:=by have:=(hzv ρ).length;rw [Array.length_toList] at this;omega
   have hx':=evO_sound f hx
   have hy':=evO_sound f hy
   simp only [Rv] at hx' hy'
   have hby:bytesT Pr el=i.bytes:=by unfold bytesT;rw [hi]
   rw [hby] at h3
   have h3':(i.bytes:Int) * (c:Int)≤281474976710656:=by
    have:((i.bytes * c:Nat):Int)≤((281474976710656:Nat):Int):=Int.ofNat_le.2 h3
    rw [Int.natCast_mul] at this;exact this
   refine ⟨.cells (madeCells zr.cells (c * i.size)) el (0,0),fun b=>.slice (some ⟨b,0,none⟩) l c,c,i.size,fun w _ _ _ _=>?_,fun n B v e ρ' b=>?_⟩
   ·have hrun:=run_make (P:=Pr) w t el i zr hu hi hz kl kc (l:Int) (c:Int) (by omega) (by omega) h3' (by omega)
    simp only [Int.toNat_natCast] at hrun
    have hx2:ev m τ x= .int kl (l:Int):=hx'
    have hy2:ev m τ y= .int kc (c:Int):=hy'
    simp only [execOp,hx2,hy2,Sem.run_bind,hrun,Result.andThen_ok,Sem.run_pure]
   ·have e:=key e
    unfold makeSliceX at e
    rw [hB] at e
    simp only at e
    simp only [on_some,onNat_some,ifT_some,repL_eq] at e
    obtain ⟨_,gx,_,gy,kl',l',rfl,kc',c',rfl,_,_,_,e⟩:=e
    rw [hx] at gx;cases gx
    rw [hy] at gy;cases gy
    replace e:on (T.get n (T.put (some (.rows el i.size false (List.replicate c z))) n .e)) (fun B=>some (B,V.sl n 0 l (some c)))=some (B,v):=e
    rw [T.get_put_same] at e
    cases e
    have hR:=Rb.rows (ρ:=ρ') (c:=b) (t:=el) (rs:=List.replicate c z) (k:=i.size) (arr:=madeCells zr.cells (c * i.size)) (fun r hr=>by rw [(List.mem_replicate.1 hr).2];exact hzl) (by rw [madeCells_flat zr.cells c i.size hzs hpos];exact (hzv ρ').repeat c)
    rw [List.length_replicate] at hR
    refine ⟨hR,fun hρ=>?_⟩
    simp only [Rv]
    exact ⟨_,c,0,hρ,by simp,PL.mkC,h1,by simp⟩
/-! ### What the run's pieces say -/
theorem chkAll_some {l:List Nat} {x:Option β}:∀ {cs:List Clm},chkAll l h x cs=some r→x=some r∧∀ c ∈ cs,c.1 ∈ l→c.2.1 h=some c.2.2
 | [],e=>⟨e,by simp⟩
 | (i,q,v)::cs,e=>by
  replace e:(Bool.rec (chkAll l h x cs) (on (q h) fun u=>Bool.rec none (chkAll l h x cs) (sameV v u)) (memL i l):Option β)=some r:=e
  rw [if_some] at e
  rcases e with ⟨hm,e⟩ | ⟨hm,e⟩
  ·rw [on_some] at e
   obtain ⟨u,hu,e⟩:=e
   rw [ifT_some] at e
   obtain ⟨hs,e⟩:=e
   have:=sameV_eq v u hs
   subst this
   obtain ⟨h1,h2⟩:=chkAll_some e
   refine ⟨h1,fun c hc hcl=>?_⟩
   rcases List.mem_cons.1 hc with rfl | hc
   ·exact hu
   ·exact h2 c hc hcl
  ·obtain ⟨h1,h2⟩:=chkAll_some e
   refine ⟨h1,fun c hc hcl=>?_⟩
   rcases List.mem_cons.1 hc with rfl | hc
   ·rw [memL_eq] at hm
    simp only at hcl
    rw [List.contains_iff_mem.2 hcl] at hm;cases hm
   ·exact h2 c hc hcl
theorem takeP_some {i:Nat} {f:(P→Option (Blk × V))→List Pnd→Option β} {pd:List Pnd} (e:takeP i pd f=some r):∃ l1 l2 mk,pd=l1++(i,mk)::l2∧f mk (l1++l2)=some r:=by
 unfold takeP at e
 have key:∀ (pd:List Pnd) (back:List Pnd→List Pnd),(List.rec (motive:=fun _=>(List Pnd→List Pnd)→Option β) (fun _=>none) (fun p r ih back=>Prod.rec (fun j mk=>Bool.rec (ih fun m=>back (p::m)) (f mk (back r)) (Nat.beq j i)) p) pd back:Option β)=some r→∃ l1 l2 mk,pd=l1++(i,mk)::l2∧f mk (back (l1++l2))=some r:=by
  intro pd
  induction pd with
  | nil=>intro back e;cases e
  | cons p pd ih=>
   obtain ⟨j,mk⟩:=p
   intro back e
   replace e:(Bool.rec ((List.rec (motive:=fun _=>(List Pnd→List Pnd)→Option β) (fun _=>none) (fun p r ih back=>Prod.rec (fun j mk=>Bool.rec (ih fun m=>back (p::m)) (f mk (back r)) (Nat.beq j i)) p) pd:(List Pnd→List Pnd)→Option β) fun m=>back ((j,mk)::m)) (f mk (back pd)) (Nat.beq j i):Option β)=some r:=e
   rw [if_some] at e
   rcases e with ⟨hj,e1⟩ | ⟨hj,e1⟩
   ·have:=Nat.eq_of_beq_eq_true hj
    subst this
    exact ⟨[],pd,mk,rfl,e1⟩
   ·obtain ⟨l1,l2,mk',h1,h2⟩:=ih _ e1
    exact ⟨(j,mk)::l1,l2,mk',by rw [h1];rfl,h2⟩
 exact key pd _ e
theorem guardX_some {ops:Array Oper} {o:Oper} {yes no:Option β} (f:Fr ρ m σ τ) {ds:List Deferred} (e:guardX ops o σ yes no=some r) :
  (Region.wanted o (yielded ops (F m τ ds).tmps)=true∧yes=some r)∨(Region.wanted o (yielded ops (F m τ ds).tmps)=false∧no=some r):=by
 obtain ⟨dst,op,ty,pos,af,g⟩:=o
 cases g with
 | none=>exact .inl ⟨rfl,e⟩
 | some jb=>
  obtain ⟨j,b⟩:=jb
  replace e:(Option.rec none (fun t=>on (T.get (pathOf t) σ) (V.onGuard (fun c=>Bool.rec no yes (Bool.rec (bnot c) c b)) no)) ((ops[j]?).bind (·.dst)):Option β)=some r:=e
  cases hj:(ops[j]?).bind (·.dst) with
  | none=>rw [hj] at e;cases e
  | some t=>
   rw [hj] at e
   replace e:on (T.get (pathOf t) σ) (V.onGuard (fun c=>Bool.rec no yes (Bool.rec (bnot c) c b)) no)=some r:=e
   rw [on_some] at e
   obtain ⟨v,hv,e⟩:=e
   obtain ⟨hlt,hvr⟩:=f.get t v hv
   rw [onGuard_some] at e
   rcases e with ⟨c,rfl,e⟩ | ⟨l,rfl,e⟩
   ·simp only [Rv] at hvr
    have hw:Region.wanted ⟨dst,op,ty,pos,af,some (j,b)⟩ (yielded ops (F m τ ds).tmps)=(c == b):=
     wanted_of hj (by have:Nat.blt t m=true:=(by rw [Nat.blt_eq];exact hlt);simp only [ev,this,cond_true];exact hvr) hlt
    rw [hw]
    cases b <;> cases c <;> first | exact .inl ⟨rfl,e⟩ | exact .inr ⟨rfl,e⟩
   ·simp only [Rv] at hvr
    obtain ⟨a,ha,_⟩:=hvr
    exact .inr ⟨wanted_tup hj ha hlt,e⟩
end
end Go.Lk
namespace Go.Lk
open Go.Eng Go.RowKit
structure Pn where
 i:Nat
 o:Oper
 dst:Nat
 mkB:P→Option (Blk × V)
 obj:Obj
 xv:Nat→Value
 cap:Nat
 k:Nat
 c:Option Nat
def Pn.abs (p:Pn):Pnd:=(p.i,p.mkB)
structure Cl where
 i:Nat
 ρ:Ren
 q:T Blk→Option V
 v:V
def Cl.abs (c:Cl):Clm:=(c.i,c.q,c.v)
def CS (ρ0:Ren) (q:T Blk→Option V) (v:V) (w:World):Prop:=∃ b ρ' h' n',ρ0.le ρ'∧Rh b ρ' h' n' w∧q h'=some v
def Cl.S (c:Cl):Nat × (World→Prop):=(c.i,CS c.ρ c.q c.v)
theorem CS.alloc {ρ0:Ren} {q:T Blk→Option V} {v:V} {w:World} (h:CS ρ0 q v w) (o:Obj):CS ρ0 q v (w.alloc o):=by
 obtain ⟨⟨b,K⟩,ρ',h',n',h1,h2,h3⟩:=h
 exact ⟨_,ρ',h',n',h1,h2.spare o,h3⟩
/-! ### What is listed -/
def exP (pd:List Pn) (j:Nat):Bool:=pd.any fun p=>p.i == j && p.c.isSome
def LE (pd:List Pn) (listed A:Array Bool):Prop:=A.size=listed.size∧∀ j,A[j]?=bif exP pd j then (listed[j]?).map (fun _=>true) else listed[j]?
theorem getD_none {A:Array Bool} {j:Nat}:A.getD j true=false↔A[j]?=some false:=by
 rw [Array.getD_eq_getD_getElem?]
 cases A[j]? with
 | none=>simp
 | some b=>simp
theorem getD_some {A:Array Bool} {j:Nat}:A.getD j false=true↔A[j]?=some true:=by
 rw [Array.getD_eq_getD_getElem?]
 cases A[j]? with
 | none=>simp
 | some b=>simp
section
variable {pd:List Pn} {l A:Array Bool} {j:Nat}
theorem LE.un (h:LE pd l A) (hj:A.getD j true=false):l.getD j true=false∧exP pd j=false:=by
 rw [getD_none] at hj ⊢
 rw [h.2] at hj
 cases he:exP pd j with
 | true=>rw [he] at hj;cases hl:l[j]? <;> rw [hl] at hj <;> cases hj
 | false=>rw [he] at hj;exact ⟨hj,rfl⟩
theorem LE.un' (h:LE pd l A) (hj:l.getD j true=false) (he:exP pd j=false):A.getD j true=false:=by
 rw [getD_none] at hj ⊢
 rw [h.2,he];exact hj
theorem LE.li (h:LE pd l A) (hj:l.getD j false=true):A.getD j false=true:=by
 rw [getD_some] at hj ⊢
 rw [h.2,hj]
 cases exP pd j <;> rfl
theorem LE.li' (h:LE pd l A) (hj:A.getD j false=true):l.getD j false=true∨exP pd j=true∧(l[j]?).isSome=true:=by
 rw [getD_some] at hj ⊢
 rw [h.2] at hj
 cases he:exP pd j with
 | true=>rw [he] at hj;cases hl:l[j]? with
  | none=>rw [hl] at hj;cases hj
  | some b=>exact .inr ⟨rfl,rfl⟩
 | false=>rw [he] at hj;exact .inl hj
theorem LE.set (h:LE pd l A) (i:Nat):LE pd (l.setIfInBounds i true) (A.setIfInBounds i true):=by
 refine ⟨by simp [h.1],fun j=>?_⟩
 rw [Array.getElem?_setIfInBounds,Array.getElem?_setIfInBounds,h.1]
 by_cases hij:i=j
 ·rw [if_pos hij,if_pos hij]
  by_cases hs:i<l.size
  ·rw [if_pos hs];cases exP pd j <;> rfl
  ·rw [if_neg hs];cases exP pd j <;> rfl
 ·rw [if_neg hij,if_neg hij];exact h.2 j
theorem mark_get:∀ (S:List Nat) (l:Array Bool),(mark S l).size=l.size∧∀ j,(mark S l)[j]?=bif S.contains j then (l[j]?).map (fun _=>true) else l[j]?
 | [],l=>⟨rfl,fun j=>rfl⟩
 | i::S,l=>by
  obtain ⟨h1,h2⟩:=mark_get S (l.setIfInBounds i true)
  have e:mark (i::S) l=mark S (l.setIfInBounds i true):=rfl
  rw [e]
  refine ⟨by rw [h1];simp,fun j=>?_⟩
  rw [h2,Array.getElem?_setIfInBounds,List.contains_cons]
  by_cases hij:i=j
  ·subst hij
   rw [if_pos rfl]
   simp only [beq_self_eq_true,Bool.true_or,cond_true]
   by_cases hs:i<l.size
   ·rw [if_pos hs,Array.getElem?_eq_getElem hs];cases S.contains i <;> rfl
   ·rw [if_neg hs,Array.getElem?_eq_none (by omega)];cases S.contains i <;> rfl
  ·rw [if_neg hij]
   have:(j == i)=false:=by simp;exact fun h=>hij h.symm
   rw [this,Bool.false_or]
theorem ready_split {ops:Array Oper} (h:LE pd l A) {S:List Nat} (hS:∀ p ∈ pd,p.c.isSome=true→p.i ∈ S) (hj:j ∈ Region.ready .any ops A):j ∈ S∨j ∈ Region.ready .any ops (mark S l):=by
 by_cases hjS:j ∈ S
 ·exact .inl hjS
 refine .inr ?_
 obtain ⟨h1,o,h2,h3⟩:=mem_ready.1 hj
 obtain ⟨m1,m2⟩:=mark_get S l
 refine mem_ready.2 ⟨?_,o,h2,fun e he hb=>?_⟩
 ·rw [getD_none,m2]
  have:S.contains j=false:=by rw [Bool.eq_false_iff];simp;exact hjS
  rw [this]
  exact getD_none.1 (h.un h1).1
 ·rw [getD_some,m2]
  rcases h.li' (h3 e he hb) with g | ⟨g,gs⟩
  ·rw [getD_some.1 g];cases S.contains e.on <;> rfl
  ·unfold exP at g
   rw [List.any_eq_true] at g
   obtain ⟨p,hp,g⟩:=g
   rw [Bool.and_eq_true] at g
   have hi:p.i=e.on:=by simpa using g.1
   have:=hS p hp g.2
   rw [hi] at this
   have:S.contains e.on=true:=by simpa using this
   rw [this]
   obtain ⟨b,hb'⟩:=Option.isSome_iff_exists.1 gs
   rw [hb'];rfl
theorem ready_up {ops:Array Oper} (h:LE pd l A) (hj:j ∈ Region.ready .any ops l) (he:exP pd j=false):j ∈ Region.ready .any ops A:=by
 obtain ⟨h1,o,h2,h3⟩:=mem_ready.1 hj
 exact mem_ready.2 ⟨h.un' h1 he,o,h2,fun e he hb=>h.li (h3 e he hb)⟩
end
/-! ### What waits -/
def tp (dst:Option Nat) (x:Value) (τ:Nat→Value):Nat→Value:=match dst with
 | none=>τ
 | some d=>upd τ d x
theorem F_tp {m:Nat} {τ:Nat→Value} {ds:List Deferred} {dst:Option Nat} {x:Value}:(F m τ ds).put dst x=F m (tp dst x τ) ds:=by
 cases dst with
 | none=>rfl
 | some d=>exact F_put ..
theorem Fr.tp {ρ:Ren} {m:Nat} {σ:T V} {τ:Nat→Value} (f:Fr ρ m σ τ) {v:V} {x:Value} (hv:Rv ρ v x) (dst:Option Nat):Fr ρ m (putD dst v σ) (tp dst x τ):=by
 cases dst with
 | none=>exact f
 | some d=>exact f.set hv d
theorem tp_ne {dst:Option Nat} {x:Value} {τ:Nat→Value} {d:Nat} (h:dst≠some d):tp dst x τ d=τ d:=by
 cases dst with
 | none=>rfl
 | some e=>
  have:Nat.beq d e=false:=by cases hb:Nat.beq d e;rfl;exact absurd (congrArg some (Nat.eq_of_beq_eq_true hb).symm) h
  simp only [tp,upd,this,cond_false]
structure PnOK (Pr:Program) (ops:Array Oper) (m:Nat) (σ:T V) (τ:Nat→Value) (ds:List Deferred) (l:Array Bool) (p:Pn):Prop where
 hi:ops[p.i]?=some p.o
 hd:p.o.dst=some p.dst
 hg:p.o.guard=none
 lt:p.dst<m
 fr:∀ n B v,p.mkB n=some (B,v)→∀ ρ':Ren,∀ c,Rb ρ' ⟨c,0,p.cap,p.k⟩ (some p.obj) B∧(ρ' n=some ⟨c,0,p.cap,p.k⟩→Rv ρ' v (p.xv c))
 noσ:T.get (pathOf p.dst) σ=none
 un:l.getD p.i true=false
 rdy:∀ e ∈ p.o.after,Region.binds .any e=true→l.getD e.on false=true
 ap:∀ j oj,ops[j]?=some oj→j≠p.i→l.getD j true=false→(∀ e ∈ oj.after,Region.binds .any e=true→e.on≠p.i)→p.o.apart ops oj=true
 run:p.c=none→∀ w,(execOp (F m τ ds).eval p.o).run Pr w= .ok (.value (p.xv w.heap.size)) (w.alloc p.obj)
 ex:∀ c,p.c=some c→τ p.dst=p.xv c
 nq:quietOp Pr p.o.op=false
theorem not_set {l:Array Bool} {i j:Nat} (h:(l.setIfInBounds i true).getD j true=false):l.getD j true=false:=by
 by_cases hij:i=j
 ·subst hij
  rw [getD_none,Array.getElem?_setIfInBounds,if_pos rfl] at h
  split at h <;> cases h
 ·rwa [getD_set_ne true hij] at h
theorem PnOK.step {Pr:Program} {ops:Array Oper} {m:Nat} {σ:T V} {τ:Nat→Value} {ds:List Deferred} {l:Array Bool} {p:Pn} (h:PnOK Pr ops m σ τ ds l p) (hsel:∀ (j:Nat) (o:Oper) cs b,ops[j]?=some o→o.op≠.select cs b) {i:Nat} {o:Oper} (hi:ops[i]?=some o) (hun:l.getD i true=false) (hne:i≠p.i)
  (hrd:∀ e ∈ o.after,Region.binds .any e=true→l.getD e.on false=true) (v:V) (x:Value):PnOK Pr ops m (putD o.dst v σ) (tp o.dst x τ) ds (l.setIfInBounds i true) p:=by
 have hno:∀ e ∈ o.after,Region.binds .any e=true→e.on≠p.i:=fun e he hb heq=>by
  have h1:=hrd e he hb
  rw [heq,getD_some] at h1
  have h2:=getD_none.1 h.un
  rw [h1] at h2;cases h2
 obtain ⟨a1,a2,a3⟩:=Oper.apart_spec (h.ap i o hi hne hun hno)
 have hdst:o.dst≠some p.dst:=a2 _ h.hd
 refine ⟨h.hi,h.hd,h.hg,h.lt,h.fr,?_,by rw [getD_set_ne true hne];exact h.un,fun e he hb=>getD_set_true (h.rdy e he hb),fun j oj hj hji hjun hjno=>h.ap j oj hj hji (not_set hjun) hjno,fun hc w=>?_,fun c hc=>?_,h.nq⟩
 ·cases hd:o.dst with
  | none=>exact h.noσ
  | some d=>
   show T.get (pathOf p.dst) (T.set v (pathOf d) σ)=none
   rw [T.get_set,h.noσ]
   split <;> rfl
 ·rw [← F_tp,execOp_put p.o (fun cs b=>hsel _ _ cs b h.hi) _ o.dst x a3]
  exact h.run hc w
 ·rw [tp_ne hdst];exact h.ex c hc
def PnR (p q:Pn):Prop:=p.i≠q.i∧p.dst≠q.dst∧∀ c,p.c=some c→q.c≠some c
theorem PnR.symm {p q:Pn} (h:PnR p q):PnR q p:=⟨h.1.symm,h.2.1.symm,fun c h1 h2=>h.2.2 c h2 h1⟩
structure IV (Pr:Program) (ops:Array Oper) (m:Nat) (w0:Base) (K:Nat→Option Obj) (ρ:Ren) (σ:T V) (τ:Nat→Value) (ds:List D) (dsr:List Deferred) (h:T Blk) (n:P) (w:World) (l A:Array Bool) (opn qs:List Nat) (cs:List Cl) (pd:List Pn):Prop where
 fr:Fr ρ m σ τ
 df:All2 (Rd ρ) ds dsr
 cls:Closed ops A
 le:LE pd l A
 cl:∀ c ∈ cs,c.ρ.le ρ∧((∀ h,c.q h=some c.v)∨c.i ∈ qs)
 hp:Rh ⟨w0.w,K⟩ ρ h n w
 k0:∀ c o,w0.keep c=some o→K c=some o
 kp:∀ p ∈ pd,∀ c,p.c=some c→K c=some p.obj∧w0.keep c=none∧w0.w.heap.size≤c
 pn:∀ p ∈ pd,PnOK Pr ops m σ τ dsr l p
 pw:pd.Pairwise PnR
 op:∀ i,i ∈ opn↔∃ p ∈ pd,p.i=i
section
variable {Pr:Program} {ops:Array Oper} {m:Nat} {w0:Base} {K:Nat→Option Obj} {ρ:Ren} {σ:T V} {τ:Nat→Value} {ds:List D} {dsr:List Deferred} {h:T Blk} {n:P} {w:World} {l A:Array Bool} {opn qs:List Nat} {cs:List Cl} {pd:List Pn}
theorem exP_of {p:Pn} (hp:p ∈ pd) {j:Nat} (hi:p.i=j) (hc:p.c.isSome=true):exP pd j=true:=by
 unfold exP
 rw [List.any_eq_true]
 exact ⟨p,hp,by simp [hi,hc]⟩
theorem IV.notex (iv:IV Pr ops m w0 K ρ σ τ ds dsr h n w l A opn qs cs pd) {i:Nat} (hno:i ∉ opn):exP pd i=false:=by
 rw [Bool.eq_false_iff]
 intro he
 unfold exP at he
 rw [List.any_eq_true] at he
 obtain ⟨p,hp,he⟩:=he
 rw [Bool.and_eq_true] at he
 exact hno ((iv.op i).2 ⟨p,hp,by simpa using he.1⟩)
theorem IV.step (iv:IV Pr ops m w0 K ρ σ τ ds dsr h n w l A opn qs cs pd) (hsel:∀ (j:Nat) (o:Oper) cs b,ops[j]?=some o→o.op≠.select cs b) {i:Nat} {o:Oper} (hi:ops[i]?=some o) (hr:i ∈ Region.ready .any ops l) (hno:i ∉ opn)
  {ρ':Ren} {v:V} {x:Value} {h':T Blk} {n':P} {w':World} (hle:ρ.le ρ') (hv:Rv ρ' v x) (H:Rh ⟨w0.w,K⟩ ρ' h' n' w') {qs':List Nat} (hqs:∀ j ∈ qs,j ∈ qs') :
  IV Pr ops m w0 K ρ' (putD o.dst v σ) (tp o.dst x τ) ds dsr h' n' w' (l.setIfInBounds i true) (A.setIfInBounds i true) opn qs' cs pd:=by
 obtain ⟨h1,o',h2,h3⟩:=mem_ready.1 hr
 rw [hi] at h2
 cases h2
 exact ⟨(iv.fr.mono hle).tp hv _,All2.mono' hle iv.df,iv.cls.set (ready_up iv.le hr (iv.notex hno)),iv.le.set i,fun c hc=>⟨(iv.cl c hc).1.trans hle,(iv.cl c hc).2.imp_right (hqs _)⟩,H,iv.k0,iv.kp,
  fun p hp=>(iv.pn p hp).step hsel hi h1 (fun e=>hno ((iv.op i).2 ⟨p,hp,e.symm⟩)) h3 v x,iv.pw,iv.op⟩
end
end Go.Lk
namespace Go.Lk
open Go.Eng Go.RowKit
/-! ### Masks -/
theorem forceN_eq {γ:Type} (n:Nat) (k:Nat→γ):forceN n k=k n:=by cases n <;> rfl
theorem shl_bit (i j:Nat):(Nat.shiftLeft 1 i).testBit j=decide (i=j):=by
 show (1 <<< i).testBit j=_
 rw [Nat.one_shiftLeft,Nat.testBit_two_pow]
theorem hasM_eq (m i:Nat):hasM m i=m.testBit i:=by
 unfold hasM
 have hb:∀ j,(Nat.land m (Nat.shiftLeft 1 i)).testBit j=(m.testBit j && decide (i=j)):=fun j=>by
  show (m &&& (1 <<< i)).testBit j=_
  rw [Nat.testBit_and,Nat.one_shiftLeft,Nat.testBit_two_pow]
 cases h:m.testBit i with
 | false=>
  have h0:Nat.land m (Nat.shiftLeft 1 i)=0:=by
   apply Nat.eq_of_testBit_eq
   intro j
   rw [hb,Nat.zero_testBit]
   by_cases hj:i=j
   ·subst hj;rw [h];rfl
   ·simp [hj]
  rw [h0];rfl
 | true=>
  have:Nat.beq (Nat.land m (Nat.shiftLeft 1 i)) 0=false:=by
   cases hq:Nat.beq (Nat.land m (Nat.shiftLeft 1 i)) 0 with
   | false=>rfl
   | true=>
    have h1:=Nat.eq_of_beq_eq_true hq
    have h2:=hb i
    rw [h1,h,Nat.zero_testBit] at h2
    simp at h2
  rw [this]
theorem subM_spec {p m:Nat} (h:subM p m=true) (i:Nat) (hi:p.testBit i=true):m.testBit i=true:=by
 have h:p &&& m=p:=Nat.eq_of_beq_eq_true h
 have h2:=congrArg (fun x=>x.testBit i) h
 simp only [Nat.testBit_and,hi,Bool.true_and] at h2
 exact h2
theorem subM_of {p m:Nat} (h:∀ i,p.testBit i=true→m.testBit i=true):subM p m=true:=by
 have:p &&& m=p:=by
  apply Nat.eq_of_testBit_eq
  intro i
  rw [Nat.testBit_and]
  cases hp:p.testBit i with
  | false=>rfl
  | true=>rw [h i hp];rfl
 show Nat.beq (p &&& m) p=true
 rw [this];exact Nat.beq_refl p
theorem disM_spec {a b:Nat} (h:disM a b=true) (i:Nat) (hi:a.testBit i=true):b.testBit i=false:=by
 have h:a &&& b=0:=Nat.eq_of_beq_eq_true h
 have h2:=congrArg (fun x=>x.testBit i) h
 simp only [Nat.testBit_and,hi,Bool.true_and,Nat.zero_testBit] at h2
 exact h2
theorem lor_bit (a b i:Nat):(Nat.lor a b).testBit i=(a.testBit i || b.testBit i):=Nat.testBit_or a b i
theorem tmpsM_spec:∀ (l:List Nat) (i:Nat),(tmpsM l).testBit i=l.contains i
 | [],i=>by show Nat.testBit 0 i=_;simp
 | t::l,i=>by
  show (Nat.lor (Nat.shiftLeft 1 t) (tmpsM l)).testBit i=_
  rw [lor_bit,shl_bit,tmpsM_spec l i,List.contains_cons]
  by_cases h:t=i
  ·subst h;simp
  ·have:(i == t)=false:=by simp;exact fun e=>h e.symm
   rw [this];simp [h]
theorem edgesM_spec:∀ (l:List Edge) (i:Nat),(edgesM l).testBit i=true↔∃ e ∈ l,Region.binds .any e=true∧e.on=i
 | [],i=>by show Nat.testBit 0 i=true↔_;simp
 | e::l,i=>by
  have ih:=edgesM_spec l i
  have h:edgesM (e::l)=(Bool.rec (edgesM l) (Nat.lor (Nat.shiftLeft 1 e.on) (edgesM l)) (Region.binds .any e):Nat):=rfl
  rw [h]
  cases hb:Region.binds .any e with
  | false=>
   simp only [List.mem_cons,exists_eq_or_imp,hb]
   rw [ih];simp
  | true=>
   show (Nat.lor (Nat.shiftLeft 1 e.on) (edgesM l)).testBit i=true↔_
   rw [lor_bit,shl_bit]
   simp only [Bool.or_eq_true,decide_eq_true_eq,List.mem_cons,exists_eq_or_imp,hb,true_and]
   rw [ih]
theorem dstM_spec (d:Option Nat) (i:Nat):(dstM d).testBit i=true↔d=some i:=by
 cases d with
 | none=>show Nat.testBit 0 i=true↔_;simp
 | some d=>show (Nat.shiftLeft 1 d).testBit i=true↔_;rw [shl_bit];simp
section
variable {Pr:Program} {ops:Array Oper}
theorem rowM_eq (o:Oper):rowM Pr ops o= .mk (edgesM o.after.toList) (tmpsM (o.looksAt ops)) (dstM o.dst) (quietOp Pr o.op) (stillOp o.op) (freshB o):=by
 unfold rowM
 rw [forceN_eq,forceN_eq,forceN_eq]
theorem tabM_eq:tabM Pr ops=ops.toList.map (rowM Pr ops):=by
 unfold tabM
 induction ops.toList with
 | nil=>rfl
 | cons o l ih=>exact congrArg (rowM Pr ops o::·) ih
structure ML (ops:Array Oper) (L:Nat) (listed:Array Bool):Prop where
 size:listed.size=ops.size
 get:∀ j,j<ops.size→listed[j]?=some (L.testBit j)
 lt:∀ j,L.testBit j=true→j<ops.size
theorem ML.zero:ML ops 0 (Array.replicate ops.size false):=⟨by simp,fun j hj=>by rw [Array.getElem?_replicate,if_pos hj];simp,fun j h=>by simp at h⟩
theorem ML.set {L:Nat} {listed:Array Bool} (h:ML ops L listed) {i:Nat} (hi:i<ops.size):ML ops (Nat.lor L (Nat.shiftLeft 1 i)) (listed.setIfInBounds i true):=by
 refine ⟨by simp [h.size],fun j hj=>?_,fun j hj=>?_⟩
 ·rw [lor_bit,shl_bit,Array.getElem?_setIfInBounds]
  by_cases hij:i=j
  ·rw [if_pos hij,if_pos (by rw [hij,h.size];exact hj)];simp [hij]
  ·rw [if_neg hij,h.get j hj];simp [hij]
 ·rw [lor_bit,shl_bit,Bool.or_eq_true,decide_eq_true_eq] at hj
  rcases hj with hj | rfl
  ·exact h.lt j hj
  ·exact hi
theorem ML.mark {L:Nat} {listed:Array Bool} (h:ML ops L listed) {l:List Nat} (hl:∀ i ∈ l,i<ops.size):ML ops (Nat.lor L (tmpsM l)) (mark l listed):=by
 obtain ⟨m1,m2⟩:=mark_get l listed
 refine ⟨by rw [m1,h.size],fun j hj=>?_,fun j hj=>?_⟩
 ·rw [lor_bit,tmpsM_spec,m2,h.get j hj]
  cases l.contains j <;> simp
 ·rw [lor_bit,tmpsM_spec,Bool.or_eq_true] at hj
  rcases hj with hj | hj
  ·exact h.lt j hj
  ·exact hl j (by simpa using hj)
theorem ML.un {L:Nat} {listed:Array Bool} (h:ML ops L listed) {j:Nat} (hj:j<ops.size):listed.getD j true=L.testBit j:=by
 rw [Array.getD_eq_getD_getElem?,h.get j hj];rfl
theorem ML.li {L:Nat} {listed:Array Bool} (h:ML ops L listed) {j:Nat}:listed.getD j false=L.testBit j:=by
 rw [Array.getD_eq_getD_getElem?]
 by_cases hj:j<ops.size
 ·rw [h.get j hj];rfl
 ·rw [Array.getElem?_eq_none (by rw [h.size];omega)]
  cases hb:L.testBit j with
  | false=>rfl
  | true=>exact absurd (h.lt j hb) hj
theorem onRow_some {tab:List Rw} {i:Nat} {f:Nat→Nat→Nat→Bool→Bool→Bool→Bool} (ht:tab=tabM Pr ops) (e:onRow false tab i f=true) :
  ∃ o,ops[i]?=some o∧f (edgesM o.after.toList) (tmpsM (o.looksAt ops)) (dstM o.dst) (quietOp Pr o.op) (stillOp o.op) (freshB o)=true:=by
 unfold onRow at e
 rw [nthL_eq,ht,tabM_eq,List.getElem?_map] at e
 cases ho:ops.toList[i]? with
 | none=>rw [ho] at e;cases e
 | some o=>
  rw [ho] at e
  rw [Array.getElem?_toList] at ho
  refine ⟨o,ho,?_⟩
  simp only [Option.map_some,rowM_eq] at e
  exact e
theorem tab_get {i:Nat} {o:Oper} (ho:ops[i]?=some o):(tabM Pr ops)[i]?=some (.mk (edgesM o.after.toList) (tmpsM (o.looksAt ops)) (dstM o.dst) (quietOp Pr o.op) (stillOp o.op) (freshB o)):=by
 rw [tabM_eq,List.getElem?_map,Array.getElem?_toList,ho,Option.map_some,rowM_eq]
theorem bF_some {b c:Bool}:(Bool.rec c false b:Bool)=true↔b=false∧c=true:=by cases b <;> simp
theorem bT_some {b c:Bool}:(Bool.rec false c b:Bool)=true↔b=true∧c=true:=by cases b <;> simp
theorem bO_some {b c:Bool}:(Bool.rec c true b:Bool)=true↔b=true∨c=true:=by cases b <;> simp
theorem readyB_spec {L i:Nat} {listed:Array Bool} (h:ML ops L listed) (e:readyB (tabM Pr ops) L i=true):i ∈ Region.ready .any ops listed:=by
 obtain ⟨o,ho,e⟩:=onRow_some rfl e
 rw [bF_some,hasM_eq] at e
 have hi:=(Array.getElem?_eq_some_iff.1 ho).1
 refine mem_ready.2 ⟨by rw [h.un hi];exact e.1,o,ho,fun x hx hb=>?_⟩
 rw [h.li]
 exact subM_spec e.2 _ ((edgesM_spec _ _).2 ⟨x,by simpa using hx,hb,rfl⟩)
theorem onlyB_rows {L i:Nat}:∀ {tab:List Rw} {j0:Nat},onlyB L i tab j0=true→∀ k p a d q s f,tab[k]?=some (.mk p a d q s f)→L.testBit (j0+k)=false→subM p L=true→j0+k=i
 | [],_,_,k,_,_,_,_,_,_,hk,_,_=>by simp at hk
 | .mk p a d q s f::tab,j0,e,k,p',a',d',q',s',f',hk,hL,hs=>by
  have e:(Bool.rec (Bool.rec (onlyB L i tab (Nat.succ j0)) (Bool.rec false (onlyB L i tab (Nat.succ j0)) (Nat.beq j0 i)) (subM p L)) (onlyB L i tab (Nat.succ j0)) (hasM L j0):Bool)=true:=e
  cases k with
  | zero=>
   simp only [List.getElem?_cons_zero,Option.some.injEq,Rw.mk.injEq] at hk
   obtain ⟨rfl,_⟩:=hk
   rw [Nat.add_zero] at hL
   rw [hasM_eq,hL,hs] at e
   have e:(Bool.rec false (onlyB L i tab (Nat.succ j0)) (Nat.beq j0 i):Bool)=true:=e
   rw [bT_some] at e
   exact Nat.eq_of_beq_eq_true e.1
  | succ k=>
   have e':onlyB L i tab (Nat.succ j0)=true:=by
    cases h1:hasM L j0 with
    | true=>rw [h1] at e;exact e
    | false=>
     rw [h1] at e
     cases h2:subM p L with
     | false=>rw [h2] at e;exact e
     | true=>rw [h2] at e;exact (bT_some.1 e).2
   have:=onlyB_rows e' k p' a' d' q' s' f' (by simpa using hk) (by rw [show Nat.succ j0+k=j0+(k+1) by omega];exact hL) hs
   omega
theorem filter_one {p:Nat→Bool} {i:Nat}:∀ {l:List Nat},l.Nodup→i ∈ l→p i=true→(∀ j ∈ l,p j=true→j=i)→l.filter p=[i]
 | [],_,h,_,_=>by cases h
 | a::l,hn,h,hp,ho=>by
  rw [List.nodup_cons] at hn
  rw [List.filter_cons]
  by_cases ha:a=i
  ·subst ha
   rw [if_pos hp]
   have:l.filter p=[]:=by
    rw [List.filter_eq_nil_iff]
    intro j hj hpj
    have:=ho j (List.mem_cons_of_mem _ hj) hpj
    subst this
    exact hn.1 hj
   rw [this]
  ·have hpa:p a≠true:=fun hpa=>ha (ho a (List.mem_cons_self ..) hpa)
   rw [if_neg hpa]
   exact filter_one hn.2 ((List.mem_cons.1 h).resolve_left (Ne.symm ha)) hp fun j hj=>ho j (List.mem_cons_of_mem _ hj)
theorem onlyB_any {L i:Nat} {listed:Array Bool} (h:ML ops L listed) (e:onlyB L i (tabM Pr ops) 0=true):∀ j ∈ Region.ready .any ops listed,j=i:=by
 intro j hj
 obtain ⟨h1,o,h2,h3⟩:=mem_ready.1 hj
 have hlt:=(Array.getElem?_eq_some_iff.1 h2).1
 rw [h.un hlt] at h1
 have:=onlyB_rows e j _ _ _ _ _ _ (tab_get h2) (by rw [Nat.zero_add];exact h1) (subM_of fun x hx=>by
  obtain ⟨e,he,hb,rfl⟩:=(edgesM_spec _ _).1 hx
  rw [← h.li];exact h3 e (by simpa using he) hb)
 omega
theorem onlyB_spec {L i:Nat} {listed:Array Bool} (h:ML ops L listed) (e:onlyB L i (tabM Pr ops) 0=true) (hr:i ∈ Region.ready .any ops listed):Region.ready .any ops listed=[i]:=by
 have hall:=onlyB_any (Pr:=Pr) h e
 have hm:∀ j,j ∈ List.range ops.size∧(fun i=>!listed.getD i true && ((ops[i]?).map (·.after.all fun e=>!Region.binds .any e || listed.getD e.on false)).getD false) j=true↔j ∈ Region.ready .any ops listed:=fun j=>by unfold Region.ready;rw [List.mem_filter]
 obtain ⟨q1,q2⟩:=(hm i).2 hr
 exact filter_one List.nodup_range q1 q2 fun j hj hp=>hall j ((hm j).1 ⟨hj,hp⟩)
theorem freeB_rows {L i a d:Nat}:∀ {tab:List Rw} {j0:Nat},freeB L i a d tab j0=true→∀ k p' a' d' q s f,tab[k]?=some (.mk p' a' d' q s f)→j0+k≠i→L.testBit (j0+k)=false→p'.testBit i=false→disM d a'=true∧disM d d'=true∧disM d' a=true
 | [],_,_,k,_,_,_,_,_,_,hk,_,_,_=>by simp at hk
 | .mk p a2 d2 q s f::tab,j0,e,k,p',a',d',q',s',f',hk,hi,hL,hp=>by
  have e:(Bool.rec (Bool.rec (Bool.rec (Bool.rec false (Bool.rec false (Bool.rec false (freeB L i a d tab (Nat.succ j0)) (disM d2 a)) (disM d d2)) (disM d a2)) (freeB L i a d tab (Nat.succ j0)) (hasM p i)) (freeB L i a d tab (Nat.succ j0)) (hasM L j0)) (freeB L i a d tab (Nat.succ j0)) (Nat.beq j0 i):Bool)=true:=e
  cases k with
  | zero=>
   simp only [List.getElem?_cons_zero,Option.some.injEq,Rw.mk.injEq] at hk
   obtain ⟨rfl,rfl,rfl,_⟩:=hk
   rw [Nat.add_zero] at hL hi
   have hbi:Nat.beq j0 i=false:=by
    cases hb:Nat.beq j0 i with
    | false=>rfl
    | true=>exact absurd (Nat.eq_of_beq_eq_true hb) hi
   rw [hbi,show hasM L j0=false by rw [hasM_eq];exact hL,show hasM p i=false by rw [hasM_eq];exact hp] at e
   have e:(Bool.rec false (Bool.rec false (Bool.rec false (freeB L i a d tab (Nat.succ j0)) (disM d2 a)) (disM d d2)) (disM d a2):Bool)=true:=e
   rw [bT_some,bT_some,bT_some] at e
   exact ⟨e.1,e.2.1,e.2.2.1⟩
  | succ k=>
   have e':freeB L i a d tab (Nat.succ j0)=true:=by
    cases h1:Nat.beq j0 i with
    | true=>rw [h1] at e;exact e
    | false=>
     rw [h1] at e
     cases h2:hasM L j0 with
     | true=>rw [h2] at e;exact e
     | false=>
      rw [h2] at e
      cases h3:hasM p i with
      | true=>rw [h3] at e;exact e
      | false=>
       rw [h3] at e
       have e:(Bool.rec false (Bool.rec false (Bool.rec false (freeB L i a d tab (Nat.succ j0)) (disM d2 a)) (disM d d2)) (disM d a2):Bool)=true:=e
       rw [bT_some,bT_some,bT_some] at e
       exact e.2.2.2
   exact freeB_rows e' k p' a' d' q' s' f' (by simpa using hk) (by omega) (by rw [show Nat.succ j0+k=j0+(k+1) by omega];exact hL) hp
theorem apart_of {x y:Oper} (h1:disM (dstM x.dst) (tmpsM (y.looksAt ops))=true) (h2:disM (dstM x.dst) (dstM y.dst)=true) (h3:disM (dstM y.dst) (tmpsM (x.looksAt ops))=true):x.apart ops y=true:=by
 unfold Oper.apart
 rw [Bool.and_eq_true]
 constructor
 ·cases hd:x.dst with
  | none=>rfl
  | some d=>
   have hb:=(dstM_spec x.dst d).2 hd
   have q1:=disM_spec h1 d hb
   have q2:=disM_spec h2 d hb
   rw [tmpsM_spec] at q1
   have q3:y.dst≠some d:=fun e=>by rw [(dstM_spec y.dst d).2 e] at q2;cases q2
   simp only [q1,Bool.not_false,Bool.true_and,bne_iff_ne,ne_eq]
   exact q3
 ·cases hd:y.dst with
  | none=>rfl
  | some d=>
   have q1:=disM_spec h3 d ((dstM_spec y.dst d).2 hd)
   rw [tmpsM_spec] at q1
   simp only [q1,Bool.not_false]
theorem freeM_spec {L i:Nat} {listed:Array Bool} (h:ML ops L listed) (e:freeM (tabM Pr ops) L i=true):Region.free .any ops listed i=true:=by
 obtain ⟨o,ho,e⟩:=onRow_some rfl e
 unfold Region.free
 rw [ho]
 simp only [List.all_eq_true,List.mem_range]
 intro j hj
 by_cases hji:j=i
 ·simp [hji]
 ·have hoj:ops[j]?=some ops[j]:=Array.getElem?_eq_getElem hj
  rw [hoj,h.un hj]
  cases hL:L.testBit j with
  | true=>simp
  | false=>
   cases hp:(edgesM (ops[j]).after.toList).testBit i with
   | true=>
    obtain ⟨e,he,hb,hon⟩:=(edgesM_spec _ _).1 hp
    have:(ops[j]).after.any (fun e=>Region.binds .any e && e.on == i)=true:=by
     rw [Array.any_eq_true']
     exact ⟨e,by simpa using he,by simp [hb,hon]⟩
    simp [this]
   | false=>
    obtain ⟨q1,q2,q3⟩:=freeB_rows e j _ _ _ _ _ _ (tab_get hoj) (by rw [Nat.zero_add];exact hji) (by rw [Nat.zero_add];exact hL) hp
    have:=apart_of (ops:=ops) q1 q2 q3
    simp [this]
/-! ### What is waited for -/
theorem unionM_spec {m x:Nat}:∀ {tab:List Rw} {j0:Nat},(unionM m tab j0).testBit x=true→∃ k p a d q s f,tab[k]?=some (.mk p a d q s f)∧m.testBit (j0+k)=true∧p.testBit x=true
 | [],_,e=>by have e:Nat.testBit 0 x=true:=e;simp at e
 | .mk p a d q s f::tab,j0,e=>by
  have e:(Bool.rec (unionM m tab (Nat.succ j0)) (Nat.lor p (unionM m tab (Nat.succ j0))) (hasM m j0):Nat).testBit x=true:=e
  have next:(unionM m tab (Nat.succ j0)).testBit x=true→∃ k p' a' d' q' s' f',(Rw.mk p a d q s f::tab)[k]?=some (.mk p' a' d' q' s' f')∧m.testBit (j0+k)=true∧p'.testBit x=true:=fun h=>by
   obtain ⟨k,p',a',d',q',s',f',h1,h2,h3⟩:=unionM_spec h
   exact ⟨k+1,p',a',d',q',s',f',by simpa using h1,by rw [show j0+(k+1)=Nat.succ j0+k by omega];exact h2,h3⟩
  cases hm:hasM m j0 with
  | false=>rw [hm] at e;exact next e
  | true=>
   rw [hm] at e
   have e:(Nat.lor p (unionM m tab (Nat.succ j0))).testBit x=true:=e
   rw [lor_bit,Bool.or_eq_true] at e
   rcases e with e | e
   ·exact ⟨0,p,a,d,q,s,f,rfl,by rw [hasM_eq] at hm;exact hm,e⟩
   ·exact next e
theorem reach_up {x:Nat}:∀ (k i:Nat),reach ops x k i=true→reach ops x (k+1) i=true
 | 0,i,h=>by
  cases ho:ops[i]? with
  | none=>simp [reach,ho] at h
  | some o=>simp only [reach,ho,Option.any_some,Bool.or_eq_true] at h ⊢;exact .inl h
 | k+1,i,h=>by
  cases ho:ops[i]? with
  | none=>simp [reach,ho] at h
  | some o=>
   rw [reach,ho,Option.any_some,Bool.or_eq_true] at h ⊢
   rcases h with h | h
   ·exact .inl h
   ·refine .inr ?_
    rw [Array.any_eq_true'] at h ⊢
    obtain ⟨e,he,h⟩:=h
    rw [Bool.and_eq_true] at h
    exact ⟨e,he,by rw [Bool.and_eq_true];exact ⟨h.1,reach_up k _ h.2⟩⟩
theorem reach_step {x y:Nat} {oy:Oper} (hy:ops[y]?=some oy) (hx:∃ e ∈ oy.after,Region.binds .any e=true∧e.on=x):∀ (k i:Nat),reach ops y k i=true→reach ops x (k+1) i=true
 | 0,i,h=>by
  cases ho:ops[i]? with
  | none=>simp [reach,ho] at h
  | some o=>
   simp only [reach,ho,Option.any_some] at h
   rw [Array.any_eq_true'] at h
   obtain ⟨e,he,h⟩:=h
   rw [Bool.and_eq_true] at h
   have hon:e.on=y:=by simpa using h.2
   rw [reach,ho,Option.any_some,Bool.or_eq_true]
   refine .inr ?_
   rw [Array.any_eq_true']
   refine ⟨e,he,?_⟩
   rw [Bool.and_eq_true]
   refine ⟨h.1,?_⟩
   rw [hon,reach,hy,Option.any_some,Array.any_eq_true']
   obtain ⟨e',he',hb',ho'⟩:=hx
   exact ⟨e',he',by simp [hb',ho']⟩
 | k+1,i,h=>by
  cases ho:ops[i]? with
  | none=>simp [reach,ho] at h
  | some o=>
   rw [reach,ho,Option.any_some,Bool.or_eq_true] at h
   rcases h with h | h
   ·have h0:reach ops y 0 i=true:=by rw [reach,ho,Option.any_some];exact h
    have:=reach_step hy hx 0 i h0
    have up:∀ j,reach ops x (1+j) i=true:=fun j=>by
     induction j with
     | zero=>exact this
     | succ j ih=>exact reach_up _ _ ih
    have h2:=up (k+1)
    rw [show 1+(k+1)=k+1+1 by omega] at h2
    exact h2
   ·rw [Array.any_eq_true'] at h
    obtain ⟨e,he,h⟩:=h
    rw [Bool.and_eq_true] at h
    rw [reach,ho,Option.any_some,Bool.or_eq_true]
    refine .inr ?_
    rw [Array.any_eq_true']
    exact ⟨e,he,by rw [Bool.and_eq_true];exact ⟨h.1,reach_step hy hx k _ h.2⟩⟩
theorem ancM_spec {i x:Nat}:∀ k,(ancM (tabM Pr ops) i k).testBit x=true→reach ops x k i=true
 | 0,h=>by
  have h:(onRow 0 (tabM Pr ops) i fun p _ _ _ _ _=>p).testBit x=true:=h
  cases ho:ops[i]? with
  | none=>
   unfold onRow at h
   rw [nthL_eq,tabM_eq,List.getElem?_map,Array.getElem?_toList,ho] at h
   have h:Nat.testBit 0 x=true:=h
   simp at h
  | some o=>
   unfold onRow at h
   rw [nthL_eq,tab_get ho] at h
   have h:(edgesM o.after.toList).testBit x=true:=h
   obtain ⟨e,he,hb,hon⟩:=(edgesM_spec _ _).1 h
   rw [reach,ho,Option.any_some,Array.any_eq_true']
   exact ⟨e,by simpa using he,by simp [hb,hon]⟩
 | k+1,h=>by
  have h:(forceN (ancM (tabM Pr ops) i k) fun m=>Nat.lor m (unionM m (tabM Pr ops) 0)).testBit x=true:=h
  rw [forceN_eq,lor_bit,Bool.or_eq_true] at h
  rcases h with h | h
  ·exact reach_up _ _ (ancM_spec k h)
  ·obtain ⟨y,p,a,d,q,s,f,h1,h2,h3⟩:=unionM_spec h
   rw [Nat.zero_add] at h2
   cases ho:ops[y]? with
   | none=>rw [tabM_eq,List.getElem?_map,Array.getElem?_toList,ho] at h1;cases h1
   | some o=>
    rw [tab_get ho] at h1
    simp only [Option.some.injEq,Rw.mk.injEq] at h1
    obtain ⟨rfl,_⟩:=h1
    obtain ⟨e,he,hb,hon⟩:=(edgesM_spec _ _).1 h3
    exact reach_step ho ⟨e,by simpa using he,hb,hon⟩ k i (ancM_spec k h2)
theorem allL_eq (f:Nat→Bool):∀ l,allL f l=l.all f
 | []=>rfl
 | a::l=>by
  show (Bool.rec false (allL f l) (f a):Bool)=_
  rw [allL_eq f l,List.all_cons]
  cases f a <;> rfl
theorem okF_ok:∀ (l:List PS) (L:Nat) (listed:Array Bool) (opn qs:List Nat),ML ops L listed→(∀ i ∈ opn,i<ops.size)→okF (tabM Pr ops) l L opn qs=true→okP Pr ops l listed opn qs=true
 | [],L,listed,opn,qs,h,ho,e=>by
  have e:(List.rec (Bool.rec false (onlyB L 1 (tabM Pr ops) 0) (onlyB L 0 (tabM Pr ops) 0)) (fun _ _ _=>false) opn:Bool)=true:=e
  cases opn with
  | cons=>cases e
  | nil=>
   have e:(Bool.rec false (onlyB L 1 (tabM Pr ops) 0) (onlyB L 0 (tabM Pr ops) 0):Bool)=true:=e
   rw [bT_some] at e
   have h0:=onlyB_any (Pr:=Pr) h e.1
   have h1:=onlyB_any (Pr:=Pr) h e.2
   have:Region.ready .any ops listed=[]:=by
    cases hr:Region.ready .any ops listed with
    | nil=>rfl
    | cons j r=>
     have m:j ∈ Region.ready .any ops listed:=by rw [hr];exact List.mem_cons_self ..
     have:=h0 j m
     have:=h1 j m
     omega
   simp [okP,this]
 | .q i::l,L,listed,opn,qs,h,ho,e=>by
  have e:(onRow false (tabM Pr ops) i fun _ _ _ q st _=>Bool.rec false (Bool.rec false (Bool.rec false (forceN (Nat.lor L (Nat.shiftLeft 1 i)) fun L'=>okF (tabM Pr ops) l L' opn (Bool.rec (i::qs) qs st)) (readyB (tabM Pr ops) L i)) (freeM (tabM Pr ops) L i)) q)=true:=e
  obtain ⟨o,hi,e⟩:=onRow_some rfl e
  rw [bT_some,bT_some,bT_some,forceN_eq] at e
  obtain ⟨e1,e2,e3,e4⟩:=e
  have hlt:=(Array.getElem?_eq_some_iff.1 hi).1
  have hq:(Bool.rec (i::qs) qs (stillOp o.op):List Nat)=if opAt ops stillOp i then qs else i::qs:=by
   have:opAt ops stillOp i=stillOp o.op:=by unfold opAt;rw [hi]
   rw [this]
   cases stillOp o.op <;> rfl
  rw [hq] at e4
  have:=okF_ok l _ _ opn _ (h.set hlt) ho e4
  unfold okP
  simp only [Bool.and_eq_true]
  refine ⟨⟨⟨by unfold opAt;rw [hi];exact e1,freeM_spec (Pr:=Pr) h e2⟩,by simpa using readyB_spec (Pr:=Pr) h e3⟩,this⟩
 | .e i chk::l,L,listed,opn,qs,h,ho,e=>by
  have e:(forceN (Nat.lor L (tmpsM opn)) fun L1=>Bool.rec false (Bool.rec false (Bool.rec false (forceN (ancM (tabM Pr ops) i 5) fun A=>Bool.rec false (forceN (Nat.lor L (Nat.shiftLeft 1 i)) fun L'=>okF (tabM Pr ops) l L' opn qs) (allL (fun j=>Bool.rec (Bool.rec (hasM A j) true (memL j chk)) true (Nat.beq j i)) qs)) (readyB (tabM Pr ops) L i)) (readyB (tabM Pr ops) L1 i)) (onlyB L1 i (tabM Pr ops) 0):Bool)=true:=e
  rw [forceN_eq,bT_some,bT_some,bT_some,forceN_eq,bT_some,forceN_eq,allL_eq] at e
  obtain ⟨e1,e2,e3,e4,e5⟩:=e
  have hm:=h.mark ho
  have hr:=readyB_spec (Pr:=Pr) h e3
  obtain ⟨_,o,hi,_⟩:=mem_ready.1 hr
  have hlt:=(Array.getElem?_eq_some_iff.1 hi).1
  have:=okF_ok l _ _ opn qs (h.set hlt) ho e5
  unfold okP
  simp only [Bool.and_eq_true]
  refine ⟨⟨⟨by simpa using onlyB_spec (Pr:=Pr) hm e1 (readyB_spec (Pr:=Pr) hm e2),by simpa using hr⟩,?_⟩,this⟩
  rw [List.all_eq_true] at e4 ⊢
  intro j hj
  have:=e4 j hj
  rw [bO_some,bO_some,hasM_eq] at this
  rcases this with q | q | q
  ·have:=Nat.eq_of_beq_eq_true q
   simp [this]
  ·rw [memL_eq] at q;simp only [q,Bool.or_true]
  ·simp [ancM_spec 5 q]
 | .o i::l,L,listed,opn,qs,h,ho,e=>by
  have e:(onRow false (tabM Pr ops) i fun _ _ _ _ _ f=>Bool.rec false (Bool.rec false (Bool.rec false (Bool.rec (okF (tabM Pr ops) l L (opn++[i]) qs) false (memL i opn)) (readyB (tabM Pr ops) L i)) (freeM (tabM Pr ops) L i)) f)=true:=e
  obtain ⟨o,hi,e⟩:=onRow_some rfl e
  rw [bT_some,bT_some,bT_some,bF_some,memL_eq] at e
  obtain ⟨e1,e2,e3,e4,e5⟩:=e
  have hlt:=(Array.getElem?_eq_some_iff.1 hi).1
  have:=okF_ok l L listed (opn++[i]) qs h (fun j hj=>by
   rcases List.mem_append.1 hj with hj | hj
   ·exact ho j hj
   ·have:j=i:=by simpa using hj
    rw [this];exact hlt) e5
  unfold okP
  simp only [Bool.and_eq_true]
  refine ⟨⟨⟨⟨?_,freeM_spec (Pr:=Pr) h e2⟩,by simpa using readyB_spec (Pr:=Pr) h e3⟩,by simpa using e4⟩,this⟩
  unfold freshAt
  rw [hi]
  obtain ⟨dst,op,ty,pos,af,g⟩:=o
  cases dst <;> cases g <;> first | exact e1 | cases e1
 | .f i::l,L,listed,opn,qs,h,ho,e=>by
  have e:(forceN (Nat.lor L (tmpsM (dropN i opn))) fun L1=>Bool.rec false (Bool.rec false (Bool.rec false (forceN (Nat.lor L (Nat.shiftLeft 1 i)) fun L'=>okF (tabM Pr ops) l L' (dropN i opn) qs) (readyB (tabM Pr ops) L1 i)) (onlyB L1 i (tabM Pr ops) 0)) (memL i opn):Bool)=true:=e
  rw [forceN_eq,bT_some,bT_some,bT_some,forceN_eq,memL_eq] at e
  obtain ⟨e1,e2,e3,e4⟩:=e
  have hdrop:∀ j ∈ dropN i opn,j<ops.size:=fun j hj=>ho j (List.mem_filter.1 hj).1
  have hm:=h.mark hdrop
  have hlt:=ho i (by simpa using e1)
  have:=okF_ok l _ _ (dropN i opn) qs (h.set hlt) hdrop e4
  unfold okP
  simp only [Bool.and_eq_true]
  have hon:=onlyB_spec (Pr:=Pr) hm e2 (readyB_spec (Pr:=Pr) hm e3)
  unfold dropN at hon this
  exact ⟨⟨e1,by rw [hon];simp⟩,this⟩
end
end Go.Lk
namespace Go.Lk
open Go.Eng Go.RowKit
def unex (pd:List Pn):Nat:=pd.countP fun p=>p.c.isNone
section
variable {Pr:Program} {ops:Array Oper} {m:Nat} {w0:Base} {K:Nat→Option Obj} {ρ:Ren} {σ:T V} {τ:Nat→Value} {ds:List D} {dsr:List Deferred} {h:T Blk} {n:P} {w:World} {l A:Array Bool} {opn qs:List Nat} {cs:List Cl} {pd l1 l2:List Pn} {p:Pn}
theorem exP_append (l1 l2:List Pn) (j:Nat):exP (l1++l2) j=(exP l1 j || exP l2 j):=by unfold exP;rw [List.any_append]
theorem exP_cons (p:Pn) (l2:List Pn) (j:Nat):exP (p::l2) j=((p.i == j && p.c.isSome) || exP l2 j):=by unfold exP;rw [List.any_cons]
theorem exP_ne {pd:List Pn} {j:Nat} (h:∀ q ∈ pd,q.i≠j):exP pd j=false:=by
 unfold exP
 rw [List.any_eq_false]
 intro q hq
 have:=h q hq
 simp [this]
theorem IV.split (iv:IV Pr ops m w0 K ρ σ τ ds dsr h n w l A opn qs cs (l1++p::l2)):(∀ q,q ∈ l1∨q ∈ l2→PnR p q)∧(l1++l2).Pairwise PnR:=by
 have hpw:=iv.pw
 rw [List.pairwise_append,List.pairwise_cons] at hpw
 obtain ⟨h1,⟨h2,h3⟩,h4⟩:=hpw
 refine ⟨fun q hq=>?_,List.pairwise_append.2 ⟨h1,h3,fun a ha b hb=>h4 a ha b (List.mem_cons_of_mem _ hb)⟩⟩
 rcases hq with hq | hq
 ·exact (h4 q hq p (List.mem_cons_self ..)).symm
 ·exact h2 q hq
theorem mem_mid {q:Pn}:q ∈ l1++p::l2↔(q ∈ l1∨q ∈ l2)∨q=p:=by
 rw [List.mem_append,List.mem_cons]
 constructor
 ·rintro (h | rfl | h)
  ·exact .inl (.inl h)
  ·exact .inr rfl
  ·exact .inl (.inr h)
 ·rintro ((h | h) | rfl)
  ·exact .inl h
  ·exact .inr (.inr h)
  ·exact .inr (.inl rfl)
theorem IV.rdy (iv:IV Pr ops m w0 K ρ σ τ ds dsr h n w l A opn qs cs (l1++p::l2)) (hc:p.c=none):p.i ∈ Region.ready .any ops A:=by
 have hp:=iv.pn p (mem_mid.2 (.inr rfl))
 have he:exP (l1++p::l2) p.i=false:=by
  rw [exP_append,exP_cons,exP_ne (pd:=l1) fun q hq=>((iv.split.1 q (.inl hq)).1).symm,exP_ne (pd:=l2) fun q hq=>((iv.split.1 q (.inr hq)).1).symm,hc]
  simp
 exact mem_ready.2 ⟨iv.le.un' hp.un he,p.o,hp.hi,fun e he hb=>iv.le.li (hp.rdy e he hb)⟩
theorem IV.exec (iv:IV Pr ops m w0 K ρ σ τ ds dsr h n w l A opn qs cs (l1++p::l2)) (hsel:∀ (j:Nat) (o:Oper) cs b,ops[j]?=some o→o.op≠.select cs b) (hc:p.c=none) :
  IV Pr ops m w0 (fun c=>if c=w.heap.size then some p.obj else K c) ρ σ (upd τ p.dst (p.xv w.heap.size)) ds dsr h n (w.alloc p.obj) l (A.setIfInBounds p.i true) opn qs cs (l1++{ p with c:=some w.heap.size }::l2):=by
 obtain ⟨hoth,hpw⟩:=iv.split
 have hpm:=iv.pn p (mem_mid.2 (.inr rfl))
 have hK:∀ c o,K c=some o→c<w.heap.size:=fun c o hk=>(Array.getElem?_eq_some_iff.1 (iv.hp.kept c o hk)).1
 have hul:l[p.i]?=some false:=getD_none.1 hpm.un
 refine ⟨⟨fun t v e=>⟨(iv.fr.get t v e).1,?_⟩⟩,iv.df,iv.cls.set (iv.rdy hc),⟨by simp [iv.le.1],fun j=>?_⟩,iv.cl,iv.hp.spare p.obj,fun c o hk=>?_,fun q hq c hqc=>?_,fun q hq=>?_,?_,fun i=>?_⟩
 ·have hne:Nat.beq t p.dst=false:=by
   cases hb:Nat.beq t p.dst with
   | false=>rfl
   | true=>
    have:=Nat.eq_of_beq_eq_true hb
    subst this
    rw [hpm.noσ] at e;cases e
  simp only [upd,hne,cond_false]
  exact (iv.fr.get t v e).2
 ·rw [Array.getElem?_setIfInBounds,exP_append,exP_cons]
  by_cases hj:p.i=j
  ·subst hj
   have hlt:p.i<A.size:=by rw [iv.le.1];exact (Array.getElem?_eq_some_iff.1 hul).1
   rw [if_pos rfl,if_pos hlt,hul]
   simp
  ·rw [if_neg hj,iv.le.2 j,exP_append,exP_cons]
   have:(p.i == j)=false:=by simp;exact hj
   simp [this]
 ·have h1:=iv.k0 c o hk
  have h2:=hK c o h1
  rw [if_neg (by omega)];exact h1
 ·rcases mem_mid.1 hq with hq | rfl
  ·obtain ⟨a1,a2,a3⟩:=iv.kp q (mem_mid.2 (.inl hq)) c hqc
   have:=hK c _ a1
   rw [if_neg (by omega)];exact ⟨a1,a2,a3⟩
  ·cases hqc
   refine ⟨if_pos rfl,?_,iv.hp.old.size⟩
   cases hk:w0.keep w.heap.size with
   | none=>rfl
   | some o=>have:=hK _ _ (iv.k0 _ _ hk);omega
 ·rcases mem_mid.1 hq with hq | rfl
  ·have hqm:=iv.pn q (mem_mid.2 (.inl hq))
   have hR:=hoth q hq
   have hno:∀ e ∈ p.o.after,Region.binds .any e=true→e.on≠q.i:=fun e he hb heq=>by
    have h1:=hpm.rdy e he hb
    rw [heq,getD_some] at h1
    have h2:=getD_none.1 hqm.un
    rw [h1] at h2;cases h2
   obtain ⟨a1,a2,a3⟩:=Oper.apart_spec (hqm.ap p.i p.o hpm.hi hR.1 hpm.un hno)
   refine ⟨hqm.hi,hqm.hd,hqm.hg,hqm.lt,hqm.fr,hqm.noσ,hqm.un,hqm.rdy,hqm.ap,fun hcq w'=>?_,fun c hcq=>?_,hqm.nq⟩
   ·have hF:F m (upd τ p.dst (p.xv w.heap.size)) dsr=(F m τ dsr).put p.o.dst (p.xv w.heap.size):=by rw [hpm.hd,F_put]
    rw [hF,execOp_put q.o (fun cs b=>hsel _ _ cs b hqm.hi) _ p.o.dst _ a3]
    exact hqm.run hcq w'
   ·have hne:Nat.beq q.dst p.dst=false:=by
     cases hb:Nat.beq q.dst p.dst with
     | false=>rfl
     | true=>exact absurd (Nat.eq_of_beq_eq_true hb).symm hR.2.1
    simp only [upd,hne,cond_false]
    exact hqm.ex c hcq
  ·exact ⟨hpm.hi,hpm.hd,hpm.hg,hpm.lt,hpm.fr,hpm.noσ,hpm.un,hpm.rdy,hpm.ap,(fun hcq=>by cases hcq),(fun c hcq=>by cases hcq;simp only [upd,Nat.beq_refl,cond_true]),hpm.nq⟩
 ·rw [List.pairwise_append] at hpw
  obtain ⟨g1,g2,g3⟩:=hpw
  have hp':∀ q,q ∈ l1∨q ∈ l2→PnR { p with c:=some w.heap.size } q:=fun q hq=>by
   refine ⟨(hoth q hq).1,(hoth q hq).2.1,fun c hcp hcq=>?_⟩
   cases hcp
   obtain ⟨a1,_⟩:=iv.kp q (mem_mid.2 (.inl hq)) _ hcq
   have:=hK _ _ a1;omega
  refine List.pairwise_append.2 ⟨g1,List.pairwise_cons.2 ⟨fun q hq=>hp' q (.inr hq),g2⟩,fun a ha b hb=>?_⟩
  rcases List.mem_cons.1 hb with rfl | hb
  ·exact (hp' a (.inl ha)).symm
  ·exact g3 a ha b hb
 ·rw [iv.op i]
  constructor
  ·rintro ⟨q,hq,hqi⟩
   rcases mem_mid.1 hq with hq | rfl
   ·exact ⟨q,mem_mid.2 (.inl hq),hqi⟩
   ·exact ⟨_,mem_mid.2 (.inr rfl),hqi⟩
  ·rintro ⟨q,hq,hqi⟩
   rcases mem_mid.1 hq with hq | rfl
   ·exact ⟨q,mem_mid.2 (.inl hq),hqi⟩
   ·exact ⟨p,mem_mid.2 (.inr rfl),hqi⟩
theorem IV.flush (iv:IV Pr ops m w0 K ρ σ τ ds dsr h n w l A opn qs cs (l1++p::l2)) {c:Nat} (hc:p.c=some c) {B:Blk} {v:V} (hm:p.mkB n=some (B,v)) :
  IV Pr ops m w0 (fun x=>if x=c then none else K x) (ρ.put n ⟨c,0,p.cap,p.k⟩) (T.put (some v) (pathOf p.dst) σ) τ ds dsr (T.put (some B) n h) n.succ w (l.setIfInBounds p.i true) A (opn.filter (· != p.i)) qs cs (l1++l2):=by
 obtain ⟨hoth,hpw⟩:=iv.split
 have hpm:=iv.pn p (mem_mid.2 (.inr rfl))
 obtain ⟨kp1,kp2,kp3⟩:=iv.kp p (mem_mid.2 (.inr rfl)) c hc
 have hle:ρ.le (ρ.put n ⟨c,0,p.cap,p.k⟩):=Ren.le_put iv.hp.free
 have hul:l[p.i]?=some false:=getD_none.1 hpm.un
 have hmem:∀ {q},q ∈ l1++l2↔q ∈ l1∨q ∈ l2:=List.mem_append
 refine ⟨⟨fun t u e=>?_⟩,All2.mono' hle iv.df,iv.cls,⟨by rw [iv.le.1];simp,fun j=>?_⟩,fun c hc=>⟨(iv.cl c hc).1.trans hle,(iv.cl c hc).2⟩,iv.hp.adopt kp1 kp3 rfl (hpm.fr n B v hm _ c).1,fun x o hk=>?_,fun q hq x hqx=>?_,fun q hq=>?_,hpw,fun i=>?_⟩
 ·rw [T.get_put] at e
  by_cases ht:pathOf t=pathOf p.dst
  ·rw [if_pos ht] at e
   cases e
   have:=pathOf_inj ht
   subst this
   rw [hpm.ex c hc]
   exact ⟨hpm.lt,(hpm.fr n B v hm _ c).2 Ren.put_same⟩
  ·rw [if_neg ht] at e
   exact (iv.fr.mono hle).get t u e
 ·rw [iv.le.2 j,Array.getElem?_setIfInBounds,exP_append,exP_cons,exP_append]
  by_cases hj:p.i=j
  ·subst hj
   have hlt:p.i<l.size:=(Array.getElem?_eq_some_iff.1 hul).1
   rw [if_pos rfl,if_pos hlt,hul,hc,exP_ne (pd:=l1) fun q hq=>((hoth q (.inl hq)).1).symm,exP_ne (pd:=l2) fun q hq=>((hoth q (.inr hq)).1).symm]
   simp
  ·rw [if_neg hj]
   have:(p.i == j)=false:=by simp;exact hj
   simp [this]
 ·have hne:x≠c:=fun e=>by subst e;rw [kp2] at hk;cases hk
  rw [if_neg hne];exact iv.k0 x o hk
 ·have hq':=hmem.1 hq
  obtain ⟨a1,a2,a3⟩:=iv.kp q (mem_mid.2 (.inl hq')) x hqx
  have hne:x≠c:=fun e=>by subst e;exact (hoth q hq').2.2 x hc hqx
  rw [if_neg hne];exact ⟨a1,a2,a3⟩
 ·have hq':=hmem.1 hq
  have hqm:=iv.pn q (mem_mid.2 (.inl hq'))
  have hR:=hoth q hq'
  refine ⟨hqm.hi,hqm.hd,hqm.hg,hqm.lt,hqm.fr,?_,by rw [getD_set_ne true hR.1];exact hqm.un,fun e he hb=>getD_set_true (hqm.rdy e he hb),fun j oj hj hji hjun hjno=>hqm.ap j oj hj hji (not_set hjun) hjno,hqm.run,hqm.ex,hqm.nq⟩
  rw [T.get_put_ne _ (fun e=>hR.2.1 (pathOf_inj e).symm)]
  exact hqm.noσ
 ·rw [List.mem_filter,iv.op i]
  simp only [bne_iff_ne,ne_eq]
  constructor
  ·rintro ⟨⟨q,hq,rfl⟩,hne⟩
   rcases mem_mid.1 hq with hq | rfl
   ·exact ⟨q,hmem.2 hq,rfl⟩
   ·exact absurd rfl hne
  ·rintro ⟨q,hq,rfl⟩
   exact ⟨⟨q,mem_mid.2 (.inl (hmem.1 hq)),rfl⟩,((hoth q (hmem.1 hq)).1).symm⟩
theorem IV.open (iv:IV Pr ops m w0 K ρ σ τ ds dsr h n w l A opn qs cs pd) {i d:Nat} {op:Op} {ty:TypeId} {pos:String} {af:Array Edge} (hi:ops[i]?=some ⟨some d,op,ty,pos,af,none⟩) (hq:freshOp op=true) (hr:i ∈ Region.ready .any ops l) (hno:i ∉ opn)
  (hfree:Region.free .any ops l i=true) {u:V} (hd:T.get (pathOf d) σ=some u) {a:Blk × V} (hx:freshX Pr op σ n=some a) :
  ∃ p:Pn,p.abs=(i,fun n=>freshX Pr op σ n)∧p.c=none∧IV Pr ops m w0 K ρ (T.put none (pathOf d) σ) τ ds dsr h n w l A (opn++[i]) qs cs (p::pd):=by
 obtain ⟨obj,xv,cap,k,f1,f2⟩:=fresh_ok (Pr:=Pr) hq iv.fr hx ty
 obtain ⟨g1,o',g2,g3⟩:=mem_ready.1 hr
 rw [hi] at g2
 cases g2
 refine ⟨⟨i,⟨some d,op,ty,pos,af,none⟩,d,fun n=>freshX Pr op σ n,obj,xv,cap,k,none⟩,rfl,rfl,⟨fun t v e=>?_⟩,iv.df,iv.cls,⟨iv.le.1,fun j=>?_⟩,iv.cl,iv.hp,iv.k0,fun q hqq c hqc=>?_,fun q hqq=>?_,?_,fun j=>?_⟩
 ·rw [T.get_put] at e
  split at e
  ·cases e
  ·exact iv.fr.get t v e
 ·rw [iv.le.2 j,exP_cons];simp
 ·rcases List.mem_cons.1 hqq with rfl | hq'
  ·cases hqc
  ·exact iv.kp q hq' c hqc
 ·rcases List.mem_cons.1 hqq with rfl | hq'
  ·refine ⟨hi,rfl,rfl,(iv.fr.get d u hd).1,f2,T.get_put_same ..,g1,g3,Region.free_spec hi hfree,fun _ w=>by rw [F_eval];exact f1 w _ _ _ _,fun c hc=>(by cases hc),?_⟩
   cases op <;> first | rfl | cases hq
  ·have hqm:=iv.pn q hq'
   exact ⟨hqm.hi,hqm.hd,hqm.hg,hqm.lt,hqm.fr,by rw [T.get_put];split;rfl;exact hqm.noσ,hqm.un,hqm.rdy,hqm.ap,hqm.run,hqm.ex,hqm.nq⟩
 ·refine List.pairwise_cons.2 ⟨fun q hq=>⟨fun e=>hno ((iv.op i).2 ⟨q,hq,e.symm⟩),fun e=>?_,fun c hc=>(by cases hc)⟩,iv.pw⟩
  have:=(iv.pn q hq).noσ
  have e:d=q.dst:=e
  rw [← e,hd] at this;cases this
 ·rw [List.mem_append,iv.op j,List.mem_singleton]
  constructor
  ·rintro (⟨q,hq,e⟩ | rfl)
   ·exact ⟨q,List.mem_cons_of_mem _ hq,e⟩
   ·exact ⟨_,List.mem_cons_self ..,rfl⟩
  ·rintro ⟨q,hq,e⟩
   rcases List.mem_cons.1 hq with rfl | hq
   ·exact .inr e.symm
   ·exact .inl ⟨q,hq,e⟩
end
end Go.Lk
namespace Go.Lk
open Go.Eng Go.RowKit
section
variable {β:Type} [Jn β] [JnOK β] {Pr:Program} {ops:Array Oper} {m:Nat} {w0:Base} {ρ0:Ren} {ds:List D} {dsr:List Deferred} {Q:Exit→Act→World→Prop} {r:β} {k:KN β} {run:Run}
theorem anyM_take' {Ss:List (Nat × (World→Prop))} {S:World→Prop} {i:Nat} {oi:Oper} {v:Value} (hi:ops[i]?=some oi) (hsel:Region.noSelect ops=true) (hQ:∀ c a a' w,Q (.panic c) a w→Q (.panic c) a' w)
  {fuel:Nat} {listed:Array Bool} {a:Act} {w:World} (hcl:Closed ops listed) (hfree:∀ j oj,ops[j]?=some oj→j≠i→listed.getD j true=false→(∀ e ∈ oj.after,Region.binds .any e=true→e.on≠i)→oi.apart ops oj=true)
  (hr:i ∈ Region.ready .any ops listed) (hy:YieldsIf Pr ops S oi v a) (hS:S w)
  (H:anyM Pr ops Q (keeps ops ((i,S)::Ss)) fuel (listed.setIfInBounds i true) (a.put oi.dst v) w):anyM Pr ops Q (keeps ops Ss) (fuel+1) listed a w:=
 anyM_mono (fun _ _ _ h x hx=>h x (List.mem_cons_of_mem _ hx)) _ _ _ _
  (anyM_first hi (Region.noSelect_spec hsel) (fun c _ w=>hQ c _ _ w) (fun _ hji hno _ _ hw hp=>hp (i,S) (List.mem_cons_self ..) (Ne.symm hji) hno hw) (fun _ _ _ _ _ h=>h) fuel listed a w hcl hfree hr hy hS H)
theorem IV.claim {K:Nat→Option Obj} {ρ:Ren} {σ:T V} {τ:Nat→Value} {h:T Blk} {n:P} {w:World} {l A:Array Bool} {opn qs:List Nat} {cs:List Cl} {pd:List Pn} (iv:IV Pr ops m w0 K ρ σ τ ds dsr h n w l A opn qs cs pd) (c:Cl) (hc:c.ρ.le ρ∧((∀ h,c.q h=some c.v)∨c.i ∈ qs)) :
  IV Pr ops m w0 K ρ σ τ ds dsr h n w l A opn qs (c::cs) pd:=⟨iv.fr,iv.df,iv.cls,iv.le,fun x hx=>by
   rcases List.mem_cons.1 hx with rfl | hx
   ·exact hc
   ·exact iv.cl x hx,iv.hp,iv.k0,iv.kp,iv.pn,iv.pw,iv.op⟩
theorem unex_mid (l1 l2:List Pn) (p:Pn):unex (l1++p::l2)=unex (l1++l2)+(bif p.c.isNone then 1 else 0):=by
 unfold unex
 rw [List.countP_append,List.countP_cons,List.countP_append]
 cases p.c.isNone <;> simp <;> omega
theorem stepsD_cons (s:PS) (L:List PS):stepsD (β:=β) Pr ops (s::L)=(PS.rec
  (fun i=>Option.rec (fun _ _ _ _ _ _ _ _=>none) (fun o=>fun cs pd run σ ds h n k=>guardX ops o σ (on (quietX Pr o.op σ h) fun v=>stepsD Pr ops L ((i,(fun h=>quietX Pr o.op σ h),v)::cs) pd run (putD o.dst v σ) ds h n k) (stepsD Pr ops L cs pd run (putD o.dst undefV σ) ds h n k)) (ops[i]?))
  (fun i chk=>Option.rec (fun _ _ _ _ _ _ _ _=>none) (fun o=>fun cs pd run σ ds h n k=>Bool.rec (guardX ops o σ (opX Pr o.op run σ h n fun v h n=>chkAll chk h (stepsD Pr ops L cs pd run (putD o.dst v σ) ds h n k) cs) (stepsD Pr ops L cs pd run (putD o.dst undefV σ) ds h n k)) none (isDefer o.op)) (ops[i]?))
  (fun i=>Option.rec (fun _ _ _ _ _ _ _ _=>none) (fun o=>fun cs pd run σ ds h n k=>Option.rec none (fun d=>on (T.get (pathOf d) σ) fun _=>on (freshX Pr o.op σ n) fun _=>stepsD Pr ops L cs ((i,fun n=>freshX Pr o.op σ n)::pd) run (T.put none (pathOf d) σ) ds h n k) o.dst) (ops[i]?))
  (fun i=>Option.rec (fun _ _ _ _ _ _ _ _=>none) (fun o=>fun cs pd run σ ds h n k=>Option.rec none (fun d=>takeP i pd fun mk rest=>on (mk n) fun Bv=>stepsD Pr ops L cs rest run (T.put (some Bv.2) (pathOf d) σ) ds (T.put (some Bv.1) n h) (P.succ n) k) o.dst) (ops[i]?)) s:SX β):=have _:True:=(fun (_:JnOK β)=>trivial) inferInstance;rfl
theorem steps_ok (hr:RunOK Pr run) (hsel:Region.noSelect ops=true) (hQ:∀ a w,KQ w0 ρ0 m r k a w→Q .normal a w) (hQp:∀ c a a' w,Q (.panic c) a w→Q (.panic c) a' w) :
  ∀ (L:List PS) (u fuel:Nat) (K:Nat→Option Obj) (ρ:Ren) (σ:T V) (τ:Nat→Value) (h:T Blk) (n:P) (w:World) (l A:Array Bool) (opn qs:List Nat) (cs:List Cl) (pd:List Pn),ρ0.le ρ→IV Pr ops m w0 K ρ σ τ ds dsr h n w l A opn qs cs pd→okP Pr ops L l opn qs=true→
   stepsD Pr ops L (cs.map Cl.abs) (pd.map Pn.abs) run σ ds h n k=some r→unex pd=u→cost L+u≤fuel→anyM Pr ops Q (keeps ops (cs.map Cl.S)) fuel A (F m τ dsr) w:=by
 have hsel':=Region.noSelect_spec hsel
 intro L
 induction L with
 | nil=>
  intro u fuel K ρ σ τ h n w l A opn qs cs pd hle iv hok e hu hf
  simp only [okP,Bool.and_eq_true,List.isEmpty_iff] at hok
  obtain ⟨h1,h2⟩:=hok
  subst h1
  have hpd:pd=[]:=by
   cases pd with
   | nil=>rfl
   | cons p pd=>exact absurd ((iv.op p.i).2 ⟨p,List.mem_cons_self ..,rfl⟩) (by simp)
  subst hpd
  have hA:A=l:=by
   apply Array.ext_getElem?
   intro j
   rw [iv.le.2 j];rfl
  subst hA
  have hrd:Region.ready .any ops A=[]:=by simpa using h2
  have hQn:Q .normal (F m τ dsr) w:=hQ _ _ ⟨ρ,σ,ds,h,n,hle,⟨⟨τ,dsr,rfl,iv.fr,iv.df⟩,iv.hp.weak iv.k0⟩,e⟩
  cases fuel with
  | zero=>exact ⟨hrd,hQn⟩
  | succ f=>exact ⟨fun _=>hQn,by rw [hrd];simp⟩
 | cons s L ih=>
  intro u
  induction u using Nat.strongRecOn with
  | _ u ihu=>
  intro fuel K ρ σ τ h n w l A opn qs cs pd hle iv hok e hu hf
-- one that waits is carried out ahead of what the plan says
  have early:∀ f,fuel=f+1→∀ j ∈ opn,j ∈ Region.ready .any ops A→opW Pr ops Q j (fun a' w'=>keeps ops (cs.map Cl.S) j w w'∧anyM Pr ops Q (keeps ops (cs.map Cl.S)) f (A.setIfInBounds j true) a' w') (F m τ dsr) w:=by
   intro f hff j hj hjr
   obtain ⟨p,hp,rfl⟩:=(iv.op j).1 hj
   have hpm:=iv.pn p hp
   have hpc:p.c=none:=by
    have:=(iv.le.un (mem_ready.1 hjr).1).2
    cases hc:p.c with
    | none=>rfl
    | some c=>rw [exP_of hp rfl (by rw [hc];rfl)] at this;cases this
   obtain ⟨l1,l2,rfl⟩:=List.append_of_mem hp
   have iv':=iv.exec hsel' hpc
   have hun:=unex_mid l1 l2 p
   have hun':=unex_mid l1 l2 { p with c:=some w.heap.size }
   rw [hpc] at hun
   simp only [Option.isNone_none,Option.isNone_some,cond_true,cond_false] at hun hun'
   unfold opW wpOpIn
   simp only [hpm.hi]
   have hw:Region.wanted p.o (yielded ops (F m τ dsr).tmps)=true:=by unfold Region.wanted;rw [hpm.hg]
   rw [if_pos hw]
   refine ⟨fun _ _=>trivial,?_⟩
   rw [show Oper.semAt Fence.wide.round (F m τ dsr).eval p.o=execOp (F m τ dsr).eval p.o from Oper.semAt_none _ _,hpm.run hpc w,Oper.uponIn_value,hpm.hd,F_put]
   refine ⟨fun x hx _ _ hS=>?_,ihu (unex (l1++l2)) (by omega) f _ ρ σ _ h n _ l _ opn qs cs _ hle iv' hok ?_ (by omega) (by omega)⟩
   ·obtain ⟨c,_,rfl⟩:=List.mem_map.1 hx
    exact CS.alloc hS _
   ·rw [← e]
    congr 1
    simp [Pn.abs]
  rw [stepsD_cons] at e
  cases s with
  | q i=>
   dsimp only at e
   simp only [okP,Bool.and_eq_true] at hok
   obtain ⟨⟨⟨hq,hfree⟩,hrl⟩,hok⟩:=hok
   have hrl:i ∈ Region.ready .any ops l:=by simpa using hrl
   cases hi:ops[i]? with
   | none=>rw [hi] at e;cases e
   | some o=>
    rw [hi] at e
    unfold opAt at hq
    rw [hi] at hq
    replace hq:quietOp Pr o.op=true:=hq
    have hno:i ∉ opn:=fun hin=>by
     obtain ⟨p,hp,rfl⟩:=(iv.op i).1 hin
     have hpm:=iv.pn p hp
     have:=hpm.hi
     rw [hi] at this
     cases this
     rw [hpm.nq] at hq;cases hq
    obtain ⟨f,rfl⟩:∃ f,fuel=f+1:=⟨fuel-1,by simp only [cost] at hf;omega⟩
    have hrA:=ready_up iv.le hrl (iv.notex hno)
    have hfr:∀ j oj,ops[j]?=some oj→j≠i→A.getD j true=false→(∀ e ∈ oj.after,Region.binds .any e=true→e.on≠i)→o.apart ops oj=true:=fun j oj hj hji hjun hjno=>Region.free_spec hi hfree j oj hj hji (iv.le.un hjun).1 hjno
    have hqs:∀ j ∈ qs,j ∈ (if opAt ops stillOp i then qs else i::qs):=fun j hj=>by split;exact hj;exact List.mem_cons_of_mem _ hj
    have hcost:cost L+u≤f:=by simp only [cost] at hf;omega
    rcases guardX_some (ds:=dsr) iv.fr e with ⟨hw,e1⟩ | ⟨hw,e1⟩
    ·rw [on_some] at e1
     obtain ⟨v,hv,e2⟩:=e1
     obtain ⟨x,hex,hxv⟩:=quiet_ok (ty:=o.type) iv.hp iv.fr hq hv
     refine anyM_take' hi hsel hQp iv.cls hfr hrA (S:=CS ρ (fun h=>quietX Pr o.op σ h) v) (.inl ⟨hw,fun w' hS=>?_⟩) ⟨_,ρ,h,n,.refl _,iv.hp,hv⟩ ?_ (v:=x)
     ·obtain ⟨b,ρ',h',n',hle',H',hv'⟩:=hS
      obtain ⟨y,hey,hyv⟩:=quiet_ok (ty:=o.type) H' (iv.fr.mono hle') hq hv'
      have:=Rv.fn' v y x hyv (hxv.mono hle')
      subst this
      rw [F_eval];exact hey o.dst o.pos o.after o.guard
     ·rw [F_tp]
      refine ih u f K ρ _ _ h n w _ _ opn _ (⟨i,ρ,fun h=>quietX Pr o.op σ h,v⟩::cs) pd hle ((iv.step hsel' hi hrl hno (.refl _) hxv iv.hp hqs).claim _ ⟨.refl _,?_⟩) hok e2 hu hcost
      cases hs:opAt ops stillOp i with
      | true=>
       refine .inl fun h2=>?_
       unfold opAt at hs
       rw [hi] at hs
       show quietX Pr o.op σ h2=some v
       rw [still_ok hs h2 h];exact hv
      | false=>simp only [Bool.false_eq_true,if_false];exact .inr (List.mem_cons_self ..)
    ·refine anyM_take' hi hsel hQp iv.cls hfr hrA (S:=fun _=>True) (.inr ⟨hw,rfl⟩) trivial ?_ (v:=undef)
     rw [F_tp]
     refine anyM_mono (fun j w w' hk x hx h1 h2 h3=>?_) _ _ _ _ (ih u f K ρ _ _ h n w _ _ opn _ cs pd hle (iv.step hsel' hi hrl hno (.refl _) Rv_undef iv.hp hqs) hok e1 hu hcost)
     rcases List.mem_cons.1 hx with rfl | hx
     ·trivial
     ·exact hk x hx h1 h2 h3
  | e i chk=>
   dsimp only at e
   simp only [okP,Bool.and_eq_true] at hok
   obtain ⟨⟨⟨hrm,hrl⟩,hall⟩,hok⟩:=hok
   have hrl:i ∈ Region.ready .any ops l:=by simpa using hrl
   have hrm:Region.ready .any ops (mark opn l)=[i]:=by simpa using hrm
   cases hi:ops[i]? with
   | none=>rw [hi] at e;cases e
   | some o=>
    rw [hi] at e
    obtain ⟨f,rfl⟩:∃ f,fuel=f+1:=⟨fuel-1,by simp only [cost] at hf;omega⟩
    have hcost:cost L+u≤f:=by simp only [cost] at hf;omega
    have hno:i ∉ opn:=fun hin=>by
     have h1:i ∈ Region.ready .any ops (mark opn l):=by rw [hrm];simp
     have h2:=getD_none.1 (mem_ready.1 h1).1
     rw [(mark_get opn l).2] at h2
     have:opn.contains i=true:=by simpa using hin
     rw [this] at h2
     cases hl:l[i]? <;> rw [hl] at h2 <;> cases h2
    have hrA:=ready_up iv.le hrl (iv.notex hno)
    refine ⟨fun h0=>(by rw [h0] at hrA;cases hrA),fun j hj=>?_⟩
    have hcase:j ∈ opn∨j=i:=by
     rcases ready_split iv.le (S:=opn) (fun p hp _=>(iv.op p.i).2 ⟨p,hp,rfl⟩) hj with h1 | h1
     ·exact .inl h1
     ·rw [hrm] at h1;exact .inr (by simpa using h1)
    rcases hcase with hjo | rfl
    ·exact early f rfl j hjo hj
    replace e:Bool.rec (guardX ops o σ (opX Pr o.op run σ h n fun v h n=>chkAll chk h (stepsD Pr ops L (cs.map Cl.abs) (pd.map Pn.abs) run (putD o.dst v σ) ds h n k) (cs.map Cl.abs)) (stepsD Pr ops L (cs.map Cl.abs) (pd.map Pn.abs) run (putD o.dst undefV σ) ds h n k)) none (isDefer o.op)=some r:=e
    rw [ifF_some] at e
    obtain ⟨hnd,e⟩:=e
    unfold opW wpOpIn
    simp only [hi]
    rcases guardX_some (ds:=dsr) iv.fr e with ⟨hw,e1⟩ | ⟨hw,e1⟩
    ·rw [if_pos hw]
     refine ⟨fun _ _=>trivial,?_⟩
     rw [show Oper.semAt Fence.wide.round (F m τ dsr).eval o=execOp (F m τ dsr).eval o from Oper.semAt_none _ _]
     refine ops_ok β Pr m o.op o.type run hr none ⟨w0.w,K⟩ ρ σ τ h n _ r w iv.fr iv.hp e1 hnd o.dst o.pos o.after o.guard dsr _ Q fun x w' q=>?_
     obtain ⟨ρ',v,h',n',hle',H',hv,e2⟩:=q
     obtain ⟨e3,hc⟩:=chkAll_some e2
     refine ⟨fun y hy hne hre hS=>?_,?_⟩
     ·obtain ⟨c,hcm,rfl⟩:=List.mem_map.1 hy
      obtain ⟨c1,c2⟩:=iv.cl c hcm
      refine ⟨_,ρ',h',n',c1.trans hle',H',?_⟩
      rcases c2 with c2 | c2
      ·exact c2 h'
      ·have h1:=List.all_eq_true.1 hall c.i c2
       simp only [Bool.or_eq_true,beq_iff_eq] at h1
       have hne:c.i≠j:=hne
       have hre:reach ops c.i 5 j=false:=hre
       rcases h1 with (h1 | h1) | h1
       ·exact absurd h1 hne
       ·rw [hre] at h1;cases h1
       ·exact hc c.abs (List.mem_map.2 ⟨c,hcm,rfl⟩) (by show c.i ∈ chk;simpa using h1)
     ·rw [F_tp]
      exact ih u f K ρ' _ _ h' n' w' _ _ opn qs cs pd (hle.trans hle') (iv.step hsel' hi hrl hno hle' hv H' (fun _ h=>h)) hok e3 hu hcost
    ·rw [if_neg (by rw [hw];simp)]
     refine ⟨fun _ _=>trivial,fun _ _ _ _ h=>h,?_⟩
     rw [F_tp]
     exact ih u f K ρ _ _ h n w _ _ opn qs cs pd hle (iv.step hsel' hi hrl hno (.refl _) Rv_undef iv.hp (fun _ h=>h)) hok e1 hu hcost
  | o i=>
   dsimp only at e
   simp only [okP,Bool.and_eq_true,Bool.not_eq_true'] at hok
   obtain ⟨⟨⟨⟨hfa,hfree⟩,hrl⟩,hno⟩,hok⟩:=hok
   have hrl:i ∈ Region.ready .any ops l:=by simpa using hrl
   have hno:i ∉ opn:=fun hin=>by
    have:opn.contains i=true:=by simpa using hin
    rw [this] at hno;cases hno
   unfold freshAt at hfa
   cases hi:ops[i]? with
   | none=>rw [hi] at e;cases e
   | some o=>
    rw [hi] at e hfa
    obtain ⟨dst,op,ty,pos,af,g⟩:=o
    cases dst with
    | none=>cases hfa
    | some d=>
     cases g with
     | some _=>cases hfa
     | none=>
      replace e:(on (T.get (pathOf d) σ) fun _=>on (freshX Pr op σ n) fun _=>stepsD Pr ops L (cs.map Cl.abs) ((i,fun n=>freshX Pr op σ n)::pd.map Pn.abs) run (T.put none (pathOf d) σ) ds h n k)=some r:=e
      simp only [on_some] at e
      obtain ⟨x,hx,a,ha,e⟩:=e
      obtain ⟨p,h1,h2,iv'⟩:=iv.open hi hfa hrl hno hfree hx ha
      refine ih (u+1) fuel K ρ _ τ h n w l A _ qs cs (p::pd) hle iv' hok ?_ ?_ (by simp only [cost] at hf;omega)
      ·rw [List.map_cons,h1];exact e
      ·unfold unex at hu ⊢
       rw [List.countP_cons,h2];simp [hu]
  | f i=>
   dsimp only at e
   simp only [okP,Bool.and_eq_true] at hok
   obtain ⟨⟨hin,hrm⟩,hok⟩:=hok
   have hin:i ∈ opn:=by simpa using hin
   have hrm:Region.ready .any ops (mark (opn.filter (· != i)) l)=[i]:=by simpa using hrm
   cases hi:ops[i]? with
   | none=>rw [hi] at e;cases e
   | some o=>
    rw [hi] at e
    cases hd:o.dst with
    | none=>
     replace e:(Option.rec none (fun d=>takeP i (pd.map Pn.abs) fun mk rest=>on (mk n) fun Bv=>stepsD Pr ops L (cs.map Cl.abs) rest run (T.put (some Bv.2) (pathOf d) σ) ds (T.put (some Bv.1) n h) (P.succ n) k) o.dst:Option β)=some r:=e
     rw [hd] at e;cases e
    | some d=>
     replace e:(Option.rec none (fun d=>takeP i (pd.map Pn.abs) fun mk rest=>on (mk n) fun Bv=>stepsD Pr ops L (cs.map Cl.abs) rest run (T.put (some Bv.2) (pathOf d) σ) ds (T.put (some Bv.1) n h) (P.succ n) k) o.dst:Option β)=some r:=e
     rw [hd] at e
     replace e:(takeP i (pd.map Pn.abs) fun mk rest=>on (mk n) fun Bv=>stepsD Pr ops L (cs.map Cl.abs) rest run (T.put (some Bv.2) (pathOf d) σ) ds (T.put (some Bv.1) n h) (P.succ n) k)=some r:=e
     obtain ⟨a1,a2,mk,hpd,e1⟩:=takeP_some e
     rw [on_some] at e1
     obtain ⟨⟨B,v⟩,hm,e2⟩:=e1
     obtain ⟨l1,l2',rfl,h1,h2⟩:=List.map_eq_append_iff.1 hpd
     obtain ⟨p,l2,rfl,h3,h4⟩:=List.map_eq_cons_iff.1 h2
     have hpi:p.i=i:=congrArg Prod.fst h3
     have hpmk:p.mkB=mk:=congrArg Prod.snd h3
     subst hpi hpmk h1 h4
     have hpm:=iv.pn p (mem_mid.2 (.inr rfl))
     have:=hpm.hi
     rw [hi] at this
     cases this
     have hdd:=hpm.hd
     rw [hd] at hdd
     cases hdd
     have hun:=unex_mid l1 l2 p
     cases hpc:p.c with
     | some c=>
      rw [hpc] at hun
      simp only [Option.isNone_some,cond_false] at hun
      refine ih u fuel _ _ _ τ _ _ w _ A _ qs cs (l1++l2) (hle.trans (Ren.le_put iv.hp.free)) (iv.flush hpc hm) hok ?_ (by omega) (by simp only [cost] at hf;omega)
      rw [List.map_append];exact e2
     | none=>
      rw [hpc] at hun
      simp only [Option.isNone_none,cond_true] at hun
      obtain ⟨f,rfl⟩:∃ f,fuel=f+1:=⟨fuel-1,by simp only [cost] at hf;omega⟩
      have hrA:=iv.rdy hpc
      have hS:∀ q ∈ l1++p::l2,q.c.isSome=true→q.i ∈ opn.filter (· != p.i):=fun q hq hqc=>by
       refine List.mem_filter.2 ⟨(iv.op q.i).2 ⟨q,hq,rfl⟩,?_⟩
       rcases mem_mid.1 hq with hq' | rfl
       ·have:=(iv.split.1 q hq').1
        simp only [bne_iff_ne,ne_eq];exact fun e=>this e.symm
       ·rw [hpc] at hqc;cases hqc
      refine ⟨fun h0=>(by rw [h0] at hrA;cases hrA),fun j hj=>early f rfl j ?_ hj⟩
      rcases ready_split iv.le hS hj with h5 | h5
      ·exact (List.mem_filter.1 h5).1
      ·rw [hrm] at h5
       have:j=p.i:=by simpa using h5
       rw [this];exact hin
theorem region_ok (hm:Pr.follows .mixedOrders=true) (m:Nat) (id:Nat) (ops:Array Oper) (draw:Bool):EXok (β:=β) Pr m (fun run rd σ ds h n kn _=>regX Pr ops draw run rd σ ds h n kn) (.region id ops draw):=by
 cases draw with
 | false=>exact region_plain (ops_ok β Pr m) id ops
 | true=>
  intro run hr rd rr w0 ρ σ ds h n kn kx r a w hrd hs e
  replace e:(Bool.rec (fun _ _ _ _ _ _ _=>none) (fun run rd σ ds h n k=>Option.rec (stepsD Pr ops (planOf Pr ops) [] [] run σ ds h n k) (fun _=>none) rd) (fitsD Pr ops):Run→Option P→T V→List D→T Blk→P→KN β→Option β) run rd σ ds h n kn=some r:=e
  cases hfit:fitsD Pr ops with
  | false=>rw [hfit] at e;cases e
  | true=>
   rw [hfit] at e
   cases rd with
   | some _=>cases e
   | none=>
    cases rr with
    | some _=>exact hrd.elim
    | none=>
     unfold fitsD at hfit
     rw [noSelB_eq,Bool.and_eq_true,Bool.and_eq_true] at hfit
     obtain ⟨⟨τ,dsr,rfl,hf,hd⟩,H⟩:=hs
     refine wpIn_region_any (F:=Fence.wide) hm (any_of_M (Po:=keeps ops []) _ _ _ _ ?_)
     have hcost:cost (planOf Pr ops)≤ops.size:=Nat.le_of_ble_eq_true hfit.1.2
     exact steps_ok (Q:=PQ w0 ρ m r kn kx) hr hfit.1.1 (fun _ _ q=>q) (fun _ _ _ _ q=>q) (planOf Pr ops) 0 ops.size w0.keep ρ σ τ h n w.drew _ _ [] [] [] [] (.refl _)
      ⟨hf,hd,Closed.none _,⟨rfl,fun _=>rfl⟩,by simp,H.drew,fun _ _ h=>h,by simp,by simp,.nil,by simp⟩ (okF_ok _ _ _ _ _ .zero (by simp) hfit.2) e rfl (by omega)
end
end Go.Lk
