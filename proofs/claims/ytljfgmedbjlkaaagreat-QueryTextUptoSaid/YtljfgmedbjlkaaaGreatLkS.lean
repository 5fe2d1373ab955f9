/- A lean reckoner for closed runs: entries that are held, calls; all operations. Over any program. -/
import Derived.Test.YtljfgmedbjlkaaaGreatLkR
import Derived.Test.YtljfgmedbjlkaaaGreatLkI
namespace Go.Lk
open Go.Eng Go.RowKit
section
variable {ρ:Ren} {Pr:Program} {m:Nat} {w0:Base} {w:World} {ty t t':TypeId} {σ:T V} {τ:Nat->Value} {h:T Blk} {n:P} {run:fG} {β:Type} {r:β} {kc:V->T Blk->P->Option β}
theorem AU {w:World} {b:Nat} {o:Obj} (h:w.heap[b]?=some o):({ w with heap:=w.heap.setIfInBounds b o }:World)=w:=by
 have:w.heap.setIfInBounds b o=w.heap:=by
  apply Array.ext_getElem?;intro j;rw [Array.getElem?_setIfInBounds]
  by_cases hj:b=j
  .subst hj;rw [if_pos rfl,h,if_pos (Array.getElem?_eq_some_iff.1 h).1]
  .rw [if_neg hj]
 rw [this]
theorem xI (H:Rh w0 ρ h n w) (f:Fr ρ m σ τ) {mo ko:Operand} (e:(on (aJ mo σ) λm=>on (aJ ko σ) λk=>V.onMap none (λb=>dH h b λes c=>
  pQ (nj Pr t) k (λ_ e=>kc (.tup [e.2.1,.int .i64 (.ofNat e.2.2)]) h n) (on (iA Pr t) λz=>kc (.tup [z,.int .i64 (.ofNat c)]) (kF b (fF es [(k,z,c)]) (Nat.succ c) h) n) es) m)=some r):fU Pr (ev m τ) w (.mapEntry t mo ko) ty (Kx w0 ρ r kc):=by
 simp only [ah] at e;obtain ⟨mv,hm,kv,hk,e⟩:=e;have hM:=av f hm;have hK:=av f hk;rw [bD] at e
 rcases e with ⟨_,e⟩ | ⟨b,rfl,e⟩
 .cases e
 .obtain ⟨es,c,hB,e⟩:=bA (r:=r) e;simp only [Rv] at hM;obtain ⟨L,hL,hM⟩:=hM;obtain ⟨l,hl,ha,hn⟩:=H.live b _ L hB hL
  rcases JT (Pr:=Pr) t with ⟨k,el,hu,q1,q2⟩ | q
  .rw [q1] at e;obtain ⟨hck,hst,hf⟩:=mq (r:=r) hK ha hn e w;have hck:=hck false;have hget:(getObj L.c).run Pr w= .ok (.map l c) w:=by simp [getObj,Sem.run,hl]
   rcases hf with ⟨p1,p2,p3⟩ | ⟨j,e',y,p1,p2,p3,p4,p5,p6⟩
   .rw [ah] at p2;obtain ⟨z,hz,p2⟩:=p2;rw [q2] at hz;obtain ⟨zr,hzr,hzv⟩:=jS (ρ:=ρ) hz;have hzr':=hzr w;obtain ⟨g1,g2⟩:=xO (c:=c) ha hn hK hzv p3;refine ⟨.tuple #[zr,goInt c],{ w with heap:=w.heap.setIfInBounds L.c (.map (l.push { key:=ev m τ ko,val:=zr,born:=c }) (c+1)) },⟨ρ,_,_,n,.refl _,kM H hB hL g1 g2,?_,p2⟩,.inl λ_ _ _ _=>?_⟩
    .simp only [Rv];exact ⟨_,rfl,by simp only [Rvs,Rv];exact ⟨_,_,rfl,hzv,_,_,rfl,rfl,rfl⟩⟩
    .simp [execOp,hM,Instr.mapEntry,run_underlying hu,hget,hck,p1,hzr',eX hl (by intros;simp)]
   .have hmod:l.modify j (λe=>{ e with key:=y.key })=l:=by
     apply Array.ext_getElem?;intro q;rw [Array.getElem?_modify]
     by_cases hq:j=q
     .subst hq;rw [if_pos rfl,p3];rfl
     .rw [if_neg hq]
    refine ⟨.tuple #[y.val,goInt y.born],w,⟨ρ,_,_,n,.refl _,H,?_,p6⟩,.inl λ_ _ _ _=>?_⟩
    .simp only [Rv];exact ⟨_,rfl,by simp only [Rvs,Rv];exact ⟨_,_,rfl,p4.2.1,_,_,rfl,by rw [p4.2.2];rfl,rfl⟩⟩
    .have hw:=AU hl;rw [p5] at hmod;simp [execOp,hM,Instr.mapEntry,run_underlying hu,hget,hck,p1,p3,p5,hst,eX hl (by intros;simp),hmod,hw]
  .rw [q] at e;exact absurd e mF
theorem yE {s:Nat} {v:V} {X:Value} (hv:Rv ρ v X):∀ {es es':List iP} {l:List MapEntry},All2 (ER ρ) es l->KC s v es=some es'->∃ i y,l[i]?=some y/\y.born=s/\(∀ j,j<i->∀ z,l[j]?=some z->z.born≠s)/\All2 (ER ρ) es' (l.set i { y with val:=X })
 | _,es',_,.nil,e=>by cases e
 | x::es,es',y::l,.cons h1 h2,e=>by
  replace e:(Bool.rec (on (KC s v es) λm=>some (x::m)) (some ((x.1,v,x.2.2)::es)) (Nat.beq x.2.2 s):Option (List iP))=some es':=e
  rw [fJ] at e
  rcases e with ⟨hs,e⟩ | ⟨hs,e⟩
  .cases e
   have:=Nat.eq_of_beq_eq_true hs;exact ⟨0,y,rfl,by rw [h1.2.2,this],λj hj=>by omega,.cons ⟨h1.1,hv,h1.2.2⟩ h2⟩
  .rw [ah] at e;obtain ⟨m',hm,e⟩:=e;cases e
   obtain ⟨i,z,a1,a2,a3,a4⟩:=yE hv h2 hm;refine ⟨i+1,z,a1,a2,λj hj u hu=>?_,.cons h1 a4⟩
   cases j with
   | zero=>
    cases hu
    intro hb
    rw [h1.2.2] at hb
    rw [hb,Nat.beq_refl] at hs;cases hs
   | succ j=>exact a3 j (by omega) u hu
theorem ug (H:Rh w0 ρ h n w) (f:Fr ρ m σ τ) {mo so vo:Operand} (e:(on (aJ mo σ) λm=>on (aJ so σ) λs=>on (aJ vo σ) λv=>V.onMap none (λb=>iQ (λs=>dH h b λes c=>on (KC s v es) λes'=>kc aS (kF b es' c h) n) s) m)=some r):fU Pr (ev m τ) w (.entryStore t mo so vo) ty (Kx w0 ρ r kc):=by
 simp only [ah] at e;obtain ⟨mv,hm,sv,hs,vv,hv,e⟩:=e;have hM:=av f hm;have hS:=av f hs;have hV:=av f hv;rw [bD] at e
 rcases e with ⟨_,e⟩ | ⟨b,rfl,e⟩
 .cases e
 .rw [eQ] at e;obtain ⟨ks,s,rfl,e⟩:=e;obtain ⟨es,c,hB,e⟩:=bA (r:=r) e;rw [ah] at e;obtain ⟨es',hes,e⟩:=e;simp only [Rv] at hM hS;obtain ⟨L,hL,hM⟩:=hM;obtain ⟨l,hl,ha,hn⟩:=H.live b _ L hB hL;obtain ⟨i,y,a1,a2,a3,a4⟩:=yE hV ha hes;have hget:(getObj L.c).run Pr w= .ok (.map l c) w:=by simp [getObj,Sem.run,hl]
  have hi:l[i]?=some y:=by rw [← Array.getElem?_toList];exact a1
  have hlt:=(Array.getElem?_eq_some_iff.1 hi).1
  have hfind:l.findIdx? (λe=>(e.born:Int) == (s:Int))=some i:=by
   rw [Array.findIdx?_eq_some_iff_getElem];refine ⟨hlt,?_,λj hj=>?_⟩
   .have:=(Array.getElem?_eq_some_iff.1 hi).2;rw [this,a2];simp
   .have hjl:j<l.size:=by omega
    have:=a3 j hj l[j] (by rw [Array.getElem?_toList,Array.getElem?_eq_getElem hjl]);simp;exact_mod_cast this
  have hmod:(l.modify i λe=>{ e with val:=ev m τ vo }).toList=l.toList.set i { y with val:=ev m τ vo }:=by
   apply List.ext_getElem?;intro q;rw [Array.getElem?_toList,Array.getElem?_modify,List.getElem?_set]
   by_cases hq:i=q
   .subst hq;rw [if_pos rfl,if_pos rfl,hi,if_pos (by rw [Array.length_toList];exact hlt)];rfl
   .rw [if_neg hq,if_neg hq,Array.getElem?_toList]
  have hkeys:((l.modify i λe=>{ e with val:=ev m τ vo }).toList.map (·.key)).Nodup:=by
   rw [hmod,List.map_set]
   have:(l.toList.map (·.key)).set i y.key=l.toList.map (·.key):=by
    apply List.ext_getElem?;intro q;rw [List.getElem?_set]
    by_cases hq:i=q
    .subst hq;rw [if_pos rfl,List.getElem?_map,a1]
     split
     .rfl
     .rename_i hlt';simp only [List.length_map] at hlt';exact absurd (List.getElem?_eq_some_iff.1 a1).1 hlt'
    .rw [if_neg hq]
   rw [this];exact hn
  refine ⟨undef,{ w with heap:=w.heap.setIfInBounds L.c (.map (l.modify i λe=>{ e with val:=ev m τ vo }) c) },⟨ρ,aS,_,n,.refl _,kM H hB hL (by rw [hmod];exact a4) hkeys,fK,e⟩,.inr ⟨rfl,λ_ _ _ _=>?_⟩⟩;have hS2:ev m τ so= .int ks (s:Int):=hS;simp [execOp,hM,hS2,Instr.entryStore,hget,asInt,asIntOf,hfind,eX hl (by intros;simp)]
theorem zQ (H:Rh w0 ρ h n w) (f:Fr ρ m σ τ) {x:Operand} (e:(Bool.rec none (on (aJ x σ) (V.onInt λ_ _=>eB (.map [] 0) (.map n) h n kc)) (Gs Pr t):Option β)=some r):fU Pr (ev m τ) w (.makeMap t (some x)) ty (Kx w0 ρ r kc):=by
 rw [aj,ah] at e;obtain ⟨ht,a,ha,e⟩:=e;rw [aK] at e;obtain ⟨k,z,rfl,e⟩:=e;have hx:=av f ha;simp only [Rv] at hx;unfold Gs at ht
 split at ht
 .rename_i kt et hu;refine ⟨.map (some w.heap.size),w.alloc (.map #[] 0),?_,.inl λ_ _ _ _=>by simp [execOp,hx,Instr.makeMap,run_underlying hu,asInt,asIntOf,newObj,Sem.run]⟩;refine ⟨ρ.put n ⟨w.heap.size,0,0,0⟩,_,_,_,Ren.le_put H.free,H.grow ⟨rfl⟩ (.inr rfl) H.free (by rw [P.num_succ];omega) (by rw [P.num_succ];omega) rfl (B:=.map [] 0) ⟨#[],rfl,.nil,by simp⟩,?_,e⟩;simp only [Rv];exact ⟨_,Ren.put_same,rfl⟩
 .cases ht
end
end Go.Lk
namespace Go.Lk
open Go.Eng Go.RowKit
section
variable {ρ:Ren} {Pr:Program} {m:Nat} {w0:Base} {w:World} {ty t t':TypeId} {σ:T V} {τ:Nat->Value} {h:T Blk} {n:P} {run:fG} {β:Type} [Jn β] {r:β} {kc:V->T Blk->P->Option β}
theorem gj {γ:Type} {x:Option γ} {v:γ} (e:on x (λv=>some v)=some v):x=some v:=by
  rw [ah] at e;obtain ⟨a,h1,h2⟩:=e;cases h2;exact h1
theorem tH (H:Rh w0 ρ h n w) (f:Fr ρ m σ τ) {op:Op} (hq:dJ Pr op=true) {v:V} (e:gU Pr op σ h=some v):∃ u,Ex Pr (ev m τ) w op ty u/\Rv ρ v u:=by
  cases op
  case convert s d x=>exact Og H f hq e
  case move x=>
    replace e:on (aJ x σ) (λv=>some v)=some v:=e
    exact Pk f (gj e)
  case assign x=>
    replace e:on (aJ x σ) (λv=>some v)=some v:=e
    exact FU f (gj e)
  case pick c a b=>
    replace e:on (on (aJ c σ) (V.onBool λt=>Bool.rec (aJ b σ) (aJ a σ) t)) (λv=>some v)=some v:=e
    exact Pf f (gj e)
  case build t parts=>
    replace e:on (xu Pr t parts.toList σ) (λv=>some v)=some v:=e
    exact Ke f (gj e)
  case load t a=>
    replace e:(Option.rec (λ_ _ _ _ _=>none) (λg=>qx λσ h=>on (aJ a σ) λv=>l5 g v h) (fV Pr t):OX V) (λ_ _ _=>none) σ h .z (λv _ _=>some v)=some v:=e
    cases hg:fV Pr t with
    | none=>rw [hg] at e;cases e
    | some g=>
      rw [hg] at e
      replace e:on (on (aJ a σ) λv=>l5 g v h) (λv=>some v)=some v:=e
      exact GQ H f hg (gj e)
  case nilCheck x=>
    replace e:on (on (aJ x σ) Oq) (λv=>some v)=some v:=e
    exact BB f (gj e)
  case binOp op t x y t'=>
    replace e:on (on (aJ x σ) λa=>on (aJ y σ) λb=>zD Pr t (PJ (CX x) (CX y)) op a b) (λv=>some v)=some v:=e
    exact Qi f (gj e)
  case unOp op t x=>
    replace e:on (on (aJ x σ) (R7 op)) (λv=>some v)=some v:=e
    have e:=gj e
    refine RT f e ?_
    rw [ah] at e
    obtain ⟨a,_,e⟩:=e
    cases op <;> first | exact .inl rfl | exact .inr (.inl rfl) | exact .inr (.inr rfl) | cases e
  case makeInterface t x=>
    replace e:on (Bool.rec none (on (aJ x σ) λv=>some (.iface t v)) (Ci Pr t)) (λv=>some v)=some v:=e
    exact qp f (gj e)
  case makeFunc g first captured=>
    cases g <;> first | (cases e;done) | skip
    rename_i g
    replace e:on (on (gq first.toList σ) λa=>on (gq captured.toList σ) λb=>some (.fn g a b)) (λv=>some v)=some v:=e
    exact Ah f (gj e)
  case slice t x lo hi mx=>
    replace e:on (on (aJ x σ) λv=>Bu Pr t lo hi mx v σ h) (λv=>some v)=some v:=e
    exact KV H f (gj e)
  case fieldAddr s x fi=>
    cases hf:bI Pr s fi with
    | none=>
      replace e:(match bI Pr s fi with | some fl=>(match l6 Pr fl.type with | some (_+1)=>qx λσ _=>on (aJ x σ) (V.onPtr λb i j=>some (.ptr b i (Nat.add j fl.offset))) | _=>λ_ _ _ _ _=>none) | none=>λ_ _ _ _ _=>none:OX V) (λ_ _ _=>none) σ h .z (λv _ _=>some v)=some v:=e
      rw [hf] at e;cases e
    | some fl=>
      replace e:(match bI Pr s fi with | some fl=>(match l6 Pr fl.type with | some (_+1)=>qx λσ _=>on (aJ x σ) (V.onPtr λb i j=>some (.ptr b i (Nat.add j fl.offset))) | _=>λ_ _ _ _ _=>none) | none=>λ_ _ _ _ _=>none:OX V) (λ_ _ _=>none) σ h .z (λv _ _=>some v)=some v:=e
      rw [hf] at e
      dsimp only at e
      cases hk:l6 Pr fl.type with
      | none=>rw [hk] at e;cases e
      | some k=>
        rw [hk] at e
        cases k with
        | zero=>cases e
        | succ k=>
          replace e:on (on (aJ x σ) (V.onPtr λb i j=>some (.ptr b i (Nat.add j fl.offset)))) (λv=>some v)=some v:=e
          exact zg f hf hk (gj e)
  case field s x fi=>
    replace e:(match bI Pr s fi with | some fl=>(match l6 Pr fl.type,fV Pr fl.type with | some k,some g=>qx λσ _=>on (aJ x σ) (jE fl.offset k g) | _,_=>λ_ _ _ _ _=>none) | none=>λ_ _ _ _ _=>none:OX V) (λ_ _ _=>none) σ h .z (λv _ _=>some v)=some v:=e
    cases hf:bI Pr s fi with
    | none=>rw [hf] at e;cases e
    | some fl=>
      rw [hf] at e
      dsimp only at e
      cases hk:l6 Pr fl.type with
      | none=>rw [hk] at e;cases e
      | some k=>
        rw [hk] at e
        cases hg:fV Pr fl.type with
        | none=>rw [hg] at e;cases e
        | some g=>
          rw [hg] at e
          replace e:on (on (aJ x σ) (jE fl.offset k g)) (λv=>some v)=some v:=e
          exact K7 f hf hk hg (gj e)
  case indexAddr t x i=>
    replace e:on (on (aJ x σ) λv=>on (aJ i σ) (iQ λi=>mI (EW Pr t) (j3 Pr t) h v i)) (λv=>some v)=some v:=e
    exact xP H f (gj e)
  case index t x i=>
    replace e:on (on (aJ x σ) λv=>on (aJ i σ) (iQ λi=>zP (xn Pr t) (Gn Pr t) v i)) (λv=>some v)=some v:=e
    exact JN f (gj e)
  case lookup t mo ko ok=>
    replace e:on (on (aJ mo σ) λm=>on (aJ ko σ) λk=>CB (nj Pr t) (iA Pr t) ok m k h) (λv=>some v)=some v:=e
    exact Iq H f (gj e)
  case entry it=>
    replace e:on (wh it σ h) (λv=>some v)=some v:=e
    exact Ku H f (gj e)
  case extract x i=>
    replace e:on (on (aJ x σ) (V.onTup λl=>oN i l)) (λv=>some v)=some v:=e
    exact DN f (gj e)
  case call c=>
    obtain ⟨callee,as,ts⟩:=c
    cases callee <;> first | (cases hq;done) | skip
    rename_i b
    have e:on (gq as.toList σ) (λas=>aR Pr b ts as h .z λv _ _=>some v)=some v:=e
    rw [ah] at e
    obtain ⟨vs,ha,e⟩:=e
    cases b <;> first | (cases hq;done) | skip
    . obtain ⟨u,x,h1,h2,h3⟩:=P5 (w:=w) (ty:=ty) f ha e
      cases h1;exact ⟨x,h3,h2⟩
    . obtain ⟨u,x,h1,h2,h3⟩:=QQ (w:=w) (ty:=ty) H f ha e
      cases h1;exact ⟨x,h3,h2⟩
    . obtain ⟨u,x,h1,h2,h3⟩:=Qg (w:=w) (ty:=ty) f ha e
      cases h1;exact ⟨x,h3,h2⟩
    . obtain ⟨u,x,h1,h2,h3⟩:=Rf (w:=w) (ty:=ty) f ha e
      cases h1;exact ⟨x,h3,h2⟩
  all_goals cases hq
theorem F5 {op:Op} (hs:dZ op=true) (h h':T Blk):gU Pr op σ h=gU Pr op σ h':=by
  cases op <;> first | (cases hs;done) | rfl | skip
  case field s x fi=>
    show (match bI Pr s fi with | some fl=>(match l6 Pr fl.type,fV Pr fl.type with | some k,some g=>qx λσ _=>on (aJ x σ) (jE fl.offset k g) | _,_=>λ_ _ _ _ _=>none) | none=>λ_ _ _ _ _=>none:OX V) (λ_ _ _=>none) σ h .z (λv _ _=>some v)=(match bI Pr s fi with | some fl=>(match l6 Pr fl.type,fV Pr fl.type with | some k,some g=>qx λσ _=>on (aJ x σ) (jE fl.offset k g) | _,_=>λ_ _ _ _ _=>none) | none=>λ_ _ _ _ _=>none:OX V) (λ_ _ _=>none) σ h' .z (λv _ _=>some v)
    cases bI Pr s fi with
    | none=>rfl
    | some fl=>simp only;cases l6 Pr fl.type <;> cases fV Pr fl.type <;> rfl
  case fieldAddr s x fi=>
    show (match bI Pr s fi with | some fl=>(match l6 Pr fl.type with | some (_+1)=>qx λσ _=>on (aJ x σ) (V.onPtr λb i j=>some (.ptr b i (Nat.add j fl.offset))) | _=>λ_ _ _ _ _=>none) | none=>λ_ _ _ _ _=>none:OX V) (λ_ _ _=>none) σ h .z (λv _ _=>some v)=(match bI Pr s fi with | some fl=>(match l6 Pr fl.type with | some (_+1)=>qx λσ _=>on (aJ x σ) (V.onPtr λb i j=>some (.ptr b i (Nat.add j fl.offset))) | _=>λ_ _ _ _ _=>none) | none=>λ_ _ _ _ _=>none:OX V) (λ_ _ _=>none) σ h' .z (λv _ _=>some v)
    cases bI Pr s fi with
    | none=>rfl
    | some fl=>simp only;cases l6 Pr fl.type with
      | none=>rfl
      | some k=>cases k <;> rfl
  case makeFunc g a b=>cases g <;> rfl
theorem Fe {op:Op} (hq:dJ Pr op=true) (e:ye Pr op run σ h n kc=some r):∃ v,gU Pr op σ h=some v/\kc v h n=some r:=by
  have lift:∀ {q:T V->T Blk->Option V} {o1:OX β} {o2:OX V},o1=qx q->o2=qx q->o1 run σ h n kc=some r->∃ v,o2 (λ_ _ _=>none) σ h .z (λv _ _=>some v)=some v/\kc v h n=some r:=by
    intro q o1 o2 h1 h2 e;subst h1 h2;unfold qx at e ⊢;rw [ah] at e;obtain ⟨v,h1,h2⟩:=e;exact ⟨v,by rw [h1];rfl,h2⟩
  cases op
  case load t a=>
    replace e:(Option.rec (λ_ _ _ _ _=>none) (λg=>qx λσ h=>on (aJ a σ) λv=>l5 g v h) (fV Pr t):OX β) run σ h n kc=some r:=e
    show ∃ v,(Option.rec (λ_ _ _ _ _=>none) (λg=>qx λσ h=>on (aJ a σ) λv=>l5 g v h) (fV Pr t):OX V) (λ_ _ _=>none) σ h .z (λv _ _=>some v)=some v/\kc v h n=some r
    cases hg:fV Pr t with
    | none=>rw [hg] at e;cases e
    | some g=>rw [hg] at e;exact lift rfl rfl e
  case makeFunc g a b=>
    cases g <;> first | (cases e;done) | exact lift rfl rfl e
  case fieldAddr s x fi=>
    replace e:(match bI Pr s fi with | some fl=>(match l6 Pr fl.type with | some (_+1)=>qx λσ _=>on (aJ x σ) (V.onPtr λb i j=>some (.ptr b i (Nat.add j fl.offset))) | _=>λ_ _ _ _ _=>none) | none=>λ_ _ _ _ _=>none:OX β) run σ h n kc=some r:=e
    show ∃ v,(match bI Pr s fi with | some fl=>(match l6 Pr fl.type with | some (_+1)=>qx λσ _=>on (aJ x σ) (V.onPtr λb i j=>some (.ptr b i (Nat.add j fl.offset))) | _=>λ_ _ _ _ _=>none) | none=>λ_ _ _ _ _=>none:OX V) (λ_ _ _=>none) σ h .z (λv _ _=>some v)=some v/\kc v h n=some r
    cases hf:bI Pr s fi with
    | none=>rw [hf] at e;cases e
    | some fl=>
      rw [hf] at e
      simp only at e ⊢
      cases hk:l6 Pr fl.type with
      | none=>rw [hk] at e;cases e
      | some k=>
        rw [hk] at e
        cases k with
        | zero=>cases e
        | succ k=>exact lift rfl rfl e
  case field s x fi=>
    replace e:(match bI Pr s fi with | some fl=>(match l6 Pr fl.type,fV Pr fl.type with | some k,some g=>qx λσ _=>on (aJ x σ) (jE fl.offset k g) | _,_=>λ_ _ _ _ _=>none) | none=>λ_ _ _ _ _=>none:OX β) run σ h n kc=some r:=e
    show ∃ v,(match bI Pr s fi with | some fl=>(match l6 Pr fl.type,fV Pr fl.type with | some k,some g=>qx λσ _=>on (aJ x σ) (jE fl.offset k g) | _,_=>λ_ _ _ _ _=>none) | none=>λ_ _ _ _ _=>none:OX V) (λ_ _ _=>none) σ h .z (λv _ _=>some v)=some v/\kc v h n=some r
    cases hf:bI Pr s fi with
    | none=>rw [hf] at e;cases e
    | some fl=>
      rw [hf] at e
      simp only at e ⊢
      cases hk:l6 Pr fl.type with
      | none=>rw [hk] at e;cases e
      | some k=>
        rw [hk] at e
        cases hg:fV Pr fl.type with
        | none=>rw [hg] at e;cases e
        | some g=>rw [hg] at e;exact lift rfl rfl e
  case convert s d x=>
    replace e:(CK.rec (λk=>qx λσ _=>on (aJ x σ) (V.onInt λ_ a=>some (.int k (k.wrap a))))
      (qx λσ _=>on (aJ x σ) (V.onInt λ_ a=>some (.flt (iR a))))
      (λbs _ σ h n f=>on (aJ x σ) (nJ h n f bs))
      (λ_ _ σ h n f=>on (aJ x σ) (V.onStr λl=>Bool.rec (eB (.fz l) (.sl n 0 (bR l) none) h n f) none (Nat.beq (bR l) 0)))
      (λ_ _ _ _ _=>none) (gL Pr s d):OX β) run σ h n kc=some r:=e
    show ∃ v,(CK.rec (λk=>qx λσ _=>on (aJ x σ) (V.onInt λ_ a=>some (.int k (k.wrap a))))
      (qx λσ _=>on (aJ x σ) (V.onInt λ_ a=>some (.flt (iR a))))
      (λbs _ σ h n f=>on (aJ x σ) (nJ h n f bs))
      (λ_ _ σ h n f=>on (aJ x σ) (V.onStr λl=>Bool.rec (eB (.fz l) (.sl n 0 (bR l) none) h n f) none (Nat.beq (bR l) 0)))
      (λ_ _ _ _ _=>none) (gL Pr s d):OX V) (λ_ _ _=>none) σ h .z (λv _ _=>some v)=some v/\kc v h n=some r
    unfold dJ at hq
    simp only at hq
    cases hK:gL Pr s d with
    | int k=>rw [hK] at e;exact lift rfl rfl e
    | flt=>rw [hK] at e;exact lift rfl rfl e
    | bytes=>rw [hK] at hq;cases hq
    | no=>rw [hK] at hq;cases hq
    | str bs=>
      rw [hK] at e
      replace e:on (aJ x σ) (nJ h n kc bs)=some r:=e
      show ∃ v,on (aJ x σ) (nJ h .z (λv _ _=>some v) bs)=some v/\kc v h n=some r
      rw [ah] at e
      obtain ⟨a,ha,e⟩:=e
      rw [ha]
      show ∃ v,nJ h .z (λv _ _=>some v) bs a=some v/\kc v h n=some r
      cases a <;> first | (cases e;done) | exact ⟨_,rfl,e⟩ | skip
      . replace e:(Bool.rec none (kc (.str []) h n) bs:Option β)=some r:=e
        rw [aj] at e
        obtain ⟨rfl,e⟩:=e
        exact ⟨_,rfl,e⟩
      . rename_i b i len cap
        replace e:(Bool.rec none (dU 1 b i len h λm=>on (gC m) λl=>kc (.str l) h n) bs:Option β)=some r:=e
        rw [aj] at e
        obtain ⟨rfl,e⟩:=e
        show ∃ v,(dU 1 b i len h λm=>on (gC m) λl=>some (V.str l))=some v/\kc v h n=some r
        unfold dU at e ⊢
        rw [ah] at e
        simp only [ah]
        obtain ⟨B,hB,e⟩:=e
        cases B <;> first | (cases e;done) | skip
        . rename_i t k o rs
          replace e:(Bool.rec none (on (bY len (dB i rs)) λm=>on (gC m) λl=>kc (.str l) h n) (Nat.beq k 1):Option β)=some r:=e
          simp only [ah,aj] at e
          obtain ⟨hk,old,ht,l,hl,e⟩:=e
          refine ⟨.str l,⟨_,hB,?_⟩,e⟩
          show (Bool.rec none (on (bY len (dB i rs)) λm=>on (gC m) λl=>some (V.str l)) (Nat.beq k 1):Option V)=_
          simp only [ah,aj]
          exact ⟨hk,old,ht,l,hl,rfl⟩
        . rename_i q
          replace e:(Bool.rec none (on (bY len (dB i q)) λm=>on (gC (BC (λc=>[.int .u8 (.ofNat c)]) m)) λl=>kc (.str l) h n) (Nat.beq 1 1):Option β)=some r:=e
          simp only [ah,aj] at e
          obtain ⟨hk,old,ht,l,hl,e⟩:=e
          refine ⟨.str l,⟨_,hB,?_⟩,e⟩
          show (Bool.rec none (on (bY len (dB i q)) λm=>on (gC (BC (λc=>[.int .u8 (.ofNat c)]) m)) λl=>some (V.str l)) (Nat.beq 1 1):Option V)=_
          simp only [ah,aj]
          exact ⟨hk,old,ht,l,hl,rfl⟩
  case call c=>
    obtain ⟨callee,as,ts⟩:=c
    cases callee <;> first | (cases hq;done) | skip
    rename_i b
    replace e:on (gq as.toList σ) (λas=>aR Pr b ts as h n kc)=some r:=e
    show ∃ v,on (gq as.toList σ) (λas=>aR Pr b ts as h .z λv _ _=>some v)=some v/\kc v h n=some r
    rw [ah] at e
    obtain ⟨vs,ha,e⟩:=e
    rw [ha]
    show ∃ v,aR Pr b ts vs h .z (λv _ _=>some v)=some v/\kc v h n=some r
    cases b <;> first | (cases hq;done) | skip
    . unfold aR at e ⊢
      simp only at e ⊢
      cases h0:(ts[0]?).bind Pr.underlying with
      | none=>rw [h0] at e;cases e
      | some d=>
        rw [h0] at e
        cases d <;> first | (cases e;done) | skip
        obtain ⟨x,rfl,e1⟩:=fu (r:=r) e
        rw [bu] at e1
        rcases e1 with ⟨rfl,e2⟩ | ⟨b,i,l,c,rfl,e2⟩
        . exact ⟨_,rfl,e2⟩
        . cases c with
          | none=>cases e2
          | some c=>exact ⟨_,rfl,e2⟩
    . unfold aR at e ⊢
      simp only at e ⊢
      cases h0:(ts[0]?).bind Pr.underlying with
      | none=>rw [h0] at e;cases e
      | some d=>
        rw [h0] at e
        cases d <;> first | (cases e;done) | skip
        all_goals
          obtain ⟨x,rfl,e1⟩:=fu (r:=r) e
          first
            | (rw [bV] at e1
               obtain ⟨l,rfl,e2⟩:=e1
               exact ⟨_,rfl,e2⟩)
            | (rw [bu] at e1
               rcases e1 with ⟨rfl,e2⟩ | ⟨b,i,l,c,rfl,e2⟩
               . exact ⟨_,rfl,e2⟩
               . exact ⟨_,rfl,e2⟩)
            | (rw [bD] at e1
               rcases e1 with ⟨rfl,e2⟩ | ⟨b,rfl,e2⟩
               . exact ⟨_,rfl,e2⟩
               . obtain ⟨es,c,hB,e3⟩:=bA (r:=r) e2
                 refine ⟨_,?_,e3⟩
                 show dH h b (λes _=>some (V.int .i64 (.ofNat (bR es))))=some _
                 unfold dH;rw [hB];rfl)
    . replace e:xE (λx y h n k=>on (Lm x y) λc=>k c h n) vs h n kc=some r:=e
      obtain ⟨x,y,rfl,e1⟩:=iw (r:=r) e
      rw [ah] at e1
      obtain ⟨c,hc,e2⟩:=e1
      refine ⟨c,?_,e2⟩
      show on (Lm x y) (λc=>some c)=some _
      rw [hc];rfl
    . replace e:xE (λx y h n k=>on (OK x y) λc=>k c h n) vs h n kc=some r:=e
      obtain ⟨x,y,rfl,e1⟩:=iw (r:=r) e
      rw [ah] at e1
      obtain ⟨c,hc,e2⟩:=e1
      refine ⟨c,?_,e2⟩
      show on (OK x y) (λc=>some c)=some _
      rw [hc];rfl
  all_goals first | (cases hq;done) | exact lift rfl rfl e
end
end Go.Lk
namespace Go.Lk
open Go.Eng Go.RowKit
section
variable {ρ:Ren} {Pr:Program} {m:Nat} {w0:Base} {w:World} {ty t t':TypeId} {σ:T V} {τ:Nat->Value} {h:T Blk} {n:P} {run:fG} {β:Type} [Jn β] {r:β} {kc:V->T Blk->P->Option β}
theorem KF {e u:TypeId} {d:TypeDesc} {i:TypeInfo} {X:Value} {base:Option Addr} {sLen sCap:Nat} (ht:Pr.underlying t=some (.slice e)) (hd:Pr.underlying u=some d) (hdi:∀ k,d≠.int k) (hi:Pr.info? e=some i) (hl:(Builtin.lenOf X).run Pr w= .ok 0 w) (hf:(Builtin.firstCells i.size 0 X).run Pr w= .ok #[] w) (hle:sLen<=sCap) :
  (Builtin.append_ #[t,u] ty #[.slice base sLen sCap,X]).run Pr w= .ok (.slice base sLen sCap) w:=by
 have hm:(match d with | .int _=>true | _=>false)=false:=by cases d <;> first | exact absurd rfl (hdi _) | rfl
 cases base <;> simp [Builtin.append_,hm,run_underlying ht,run_underlying hd,sizeOf,typeInfo,hi,hl,hle,hf,storeCells]
theorem rf {s:V} {S:Value} (hs:Rv ρ s S) (e:V.onSl (kc s h n) (λ_ _ _ _=>kc s h n) s=some r):kc s h n=some r/\∃ base a b,S= .slice base a b/\a<=b:=by
 have _:True:=(λ(_:Jn β)=>trivial) inferInstance;rw [bu] at e
 rcases e with ⟨rfl,e⟩ | ⟨b,i,l,c,rfl,e⟩
 .simp only [Rv] at hs;exact ⟨e,_,_,_,hs,Nat.le_refl _⟩
 .simp only [Rv] at hs;obtain ⟨L,c',_,hL,hs,_,h2,_⟩:=hs;exact ⟨e,_,_,_,hs,h2⟩
theorem DK {L:Loc} {i mm c kk:Nat} {new:List (List V)} {cs:List Value} (q1:cs.length=mm * kk) (q2:Cells w.heap L.c ((L.o+i) * L.k) cs) (q3:Rvs ρ new.flatten cs) (q4:∀ r ∈ new,r.length=kk) (hn:new.length=mm) :
  ∃ news,AppSrc Pr (.slice (some ⟨L.c,(L.o+i) * L.k,none⟩) mm c) mm kk news w/\Rvs ρ new.flatten news/\(∀ r ∈ new,r.length=kk)/\new.length=mm:=by
 have hcell:∀ (w':World),w'.heap=w.heap->∀ j v,cs[j]?=some v->w'.cell? ((⟨L.c,(L.o+i) * L.k,none⟩:Addr).add j)=some v:=λw' hw j v hj=>by
  have hjl:=(List.getElem?_eq_some_iff.1 hj).1;rw [bH];have:Cells w'.heap L.c ((L.o+i) * L.k) cs:=by rw [hw];exact q2
  rw [this.cell j hjl,(List.getElem?_eq_some_iff.1 hj).2]
 exact ⟨cs,⟨λw'=>by simp [Builtin.lenOf],run_firstCells_some (P:=Pr) w kk mm _ mm c cs q1 (hcell w rfl),run_firstCells_some (P:=Pr) w.drew kk mm _ mm c cs q1 (hcell w.drew rfl),q1⟩,q3,q4,hn⟩
theorem zY {s:ByteArray} {l:List Nat} (hl:aH s=l):∃ news,AppSrc Pr (.string s) l.length 1 news w/\Rvs ρ ((l.map λc=>[V.int .u8 (.ofNat c)]).flatten) news:=by
 subst hl;have hx:(s.extract 0 s.size)=s:=by simp
 have hlen:=aX (s:=s)
 have hrun:∀ w:World,(Builtin.firstCells 1 (aH s).length (.string s)).run Pr w= .ok ((aH s).map λc:Nat=>Value.int .u8 (c:Int)).toArray w:=λw=>by
  rw [hlen];simp only [Builtin.firstCells,hx,Sem.run_pure]
  congr 1
  apply Array.ext';simp [aH,List.map_map]
 refine ⟨(aH s).map λc:Nat=>Value.int .u8 (c:Int),⟨λw'=>by rw [hlen];simp [Builtin.lenOf],hrun w,hrun w.drew,by simp⟩,?_⟩;generalize aH s=l
 induction l with
 | nil=>simp only [List.map_nil,List.flatten_nil,Rvs]
 | cons c l ih=>
  simp only [List.map_cons,List.flatten_cons,List.singleton_append,Rvs,Rv]
  exact ⟨_,_,rfl,rfl,ih⟩
theorem E5 (H:Rh w0 ρ h n w) (f:Fr ρ m σ τ) {as:Array Operand} {ts:Array TypeId} {vs:List V} (ha:gq as.toList σ=some vs) (e:aR Pr .append ts vs h n kc=some r) :
  fU Pr (ev m τ) w (.call { callee:=.builtin .append,args:=as,argTypes:=ts }) ty (Kx w0 ρ r kc):=by
 unfold aR at e;simp only at e
 cases h0:ts[0]? with
 | none=>rw [h0] at e;cases e
 | some t=>
  rw [h0] at e
  dsimp only at e
  cases hE:wC Pr t with
  | none=>rw [hE] at e;cases e
  | some a=>
   obtain ⟨el,kk,by_⟩:=a
   rw [hE] at e
   dsimp only at e
   obtain ⟨ht,hT⟩:=zq hE
   obtain ⟨i,z,hi,hz,hzs,hpos,hby,hk1,hk2⟩:=Jl hT
   simp only at ht hi hk1 hk2
   subst hk1 hk2
   have fin:∀ {o p:Operand} {X S:Value} {u:TypeId},as=#[o,p]->ev m τ o=S->ev m τ p=X->(∀ args,Builtin.append_ ts ty args=Builtin.append_ #[t,u] ty args)->(∃ v w',(Builtin.append_ #[t,u] ty #[S,X]).run Pr w= .ok v w'/\Kx w0 ρ r kc v w')->fU Pr (ev m τ) w (.call { callee:=.builtin .append,args:=as,argTypes:=ts }) ty (Kx w0 ρ r kc):=by
    rintro o p X S u rfl rfl rfl hts ⟨v,w',hrun,hK⟩;exact ⟨v,w',hK,.inl λ_ _ _ _=>by simp [execOp,resolve,invoke,builtin,hts,hrun]⟩
   by_cases hts:ts=#[t,t]
   .rw [if_pos hts] at e
    obtain ⟨s,x,rfl,e1⟩:=iw (r:=r) e
    clear e
    obtain ⟨o,p,rfl,hs,hx⟩:=Li f ha
    refine fin rfl rfl rfl (λ_=>by rw [hts]) ?_
    generalize ev m τ o=S at hs
    generalize ev m τ p=X at hx
    unfold C4 at e1
    rw [bu] at e1
    rcases e1 with ⟨rfl,e1⟩ | ⟨b,j,mm,c,rfl,e1⟩
    .obtain ⟨e2,base,a,b,rfl,hab⟩:=rf hs e1
     simp only [Rv] at hx
     subst hx
     exact ⟨_,w,KF ht ht (by intros;simp) hi (by simp [Builtin.lenOf]) (by simp [Builtin.firstCells]) hab,ρ,s,h,n,.refl _,H,hs,e2⟩
    .rw [fJ] at e1
     rcases e1 with ⟨h1,e1⟩ | ⟨h1,e1⟩
     .have:=Nat.eq_of_beq_eq_true h1
      subst this
      obtain ⟨e2,base,a,b',rfl,hab⟩:=rf hs e1
      simp only [Rv] at hx
      obtain ⟨L,c',_,hL,rfl,_⟩:=hx
      exact ⟨_,w,KF ht ht (by intros;simp) hi (by simp [Builtin.lenOf]) (by simp [Builtin.firstCells,loadCells,loadCellsFrom]) hab,ρ,s,h,n,.refl _,H,hs,e2⟩
     .have hp:0<mm:=Nat.pos_of_ne_zero λh'=>by subst h';cases h1
      have hX:=hx
      simp only [Rv] at hX
      obtain ⟨L,c',pp,hL,rfl,hpl,_⟩:=hX
      obtain rfl:=(hpl.pos hp).symm
      obtain ⟨new,e2,_,hn,hcs⟩:=j4 (β:=β) H hL e1
      obtain ⟨cs,q1,q2,q3,q4⟩:=hcs hp
      obtain ⟨news,g1,g2,g3,g4⟩:=DK (Pr:=Pr) (c:=c') q1 q2 q3 q4 hn
      exact mh H ht ⟨_,ht,by intros;simp⟩ hi hz hzs hpos hby hs g1 g2 g3 g4 hp e2
   .rw [if_neg hts] at e
    generalize hkk:i.size=kk at e
    generalize hu:(ts[1]?).bind Pr.underlying=d at e
    rcases d with _ | d
    .cases e
    cases d <;> first | (cases e;done) | skip
    match kk,hkk,e with
    | 0,_,e=>cases e
    | k+2,_,e=>cases e
    | 1,hkk,e=>
     replace e:xE (λs x h n k=>V.onStr (λl=>wR el 1 i.bytes s l h n k) x) vs h n kc=some r:=e
     obtain ⟨s,x,rfl,e1⟩:=iw (r:=r) e
     clear e
     obtain ⟨o,p,rfl,hs,hx⟩:=Li f ha
     rw [bV] at e1
     obtain ⟨l,rfl,e2⟩:=e1
     simp only [Rv] at hx
     obtain ⟨sv,hx,hl⟩:=hx
     cases h1:ts[1]? with
     | none=>rw [h1] at hu;cases hu
     | some u=>
      rw [h1] at hu
      simp only [Option.bind_some] at hu
      refine fin rfl rfl hx (λargs=>by simp only [Builtin.append_,h0,h1];rfl) ?_
      generalize ev m τ o=S at hs
      unfold wR at e2
      rw [fJ,bO,DA] at e2
      rcases e2 with ⟨q1,e2⟩ | ⟨q1,e2⟩
      .have:=Nat.eq_of_beq_eq_true q1
       obtain ⟨e3,base,a,b',rfl,hab⟩:=rf hs e2
       have hs0:sv.size=0:=by rw [← aX,hl];exact this
       exact ⟨_,w,KF ht hu (by intros;simp) hi (by simp [Builtin.lenOf,hs0]) (by simp [Builtin.firstCells]) hab,ρ,s,h,n,.refl _,H,hs,e3⟩
      .have hp:0<l.length:=Nat.pos_of_ne_zero λh'=>by rw [h'] at q1;cases q1
       obtain ⟨news,g1,g2⟩:=zY (Pr:=Pr) (ρ:=ρ) (w:=w) hl
       rw [← hkk] at g1 e2
       exact mh H ht ⟨_,hu,by intros;simp⟩ hi hz hzs hpos hby hs g1 g2 (by intro r hr;obtain ⟨c,_,rfl⟩:=List.mem_map.1 hr;rw [hkk];rfl) (by simp) hp e2
theorem Ge (H:Rh w0 ρ h n w) (f:Fr ρ m σ τ) {as:Array Operand} {ts:Array TypeId} {vs:List V} (ha:gq as.toList σ=some vs) (e:aR Pr .clear ts vs h n kc=some r) :
  fU Pr (ev m τ) w (.call { callee:=.builtin .clear,args:=as,argTypes:=ts }) ty (Kx w0 ρ r kc):=by
 have hu0:Rv ρ (.tup []) (.tuple #[]):=by simp only [Rv];exact ⟨#[],rfl,by simp only [Rvs]⟩
 unfold aR at e;simp only at e
 cases h0:ts[0]? with
 | none=>rw [h0] at e;cases e
 | some t=>
  rw [h0] at e
  simp only [Option.bind_some] at e
  cases hu:Pr.underlying t with
  | none=>rw [hu] at e;cases e
  | some d=>
   rw [hu] at e
   cases d <;> first | (cases e;done) | skip
   case slice el0=>
    simp only at e
    cases hB:jY Pr t with
    | none=>rw [hB] at e;cases e
    | some a=>
     obtain ⟨el,kk,z⟩:=a
     rw [hB] at e
     obtain ⟨x,rfl,e1⟩:=fu (r:=r) e
     obtain ⟨o,rfl,hx⟩:=D3 f ha
     obtain ⟨hu',hZ⟩:=iT hB
     rw [hu] at hu'
     dsimp only at hu' hZ
     cases hu'
     obtain ⟨i,zr,hi,hz,hk,hpos,hzl,hzv⟩:=mT hZ
     simp only at hi hk hpos hzl hzv
     subst hk
     have hzv:=hzv ρ
     have hzs:zr.cells.size=i.size:=by have:=hzv.length;rw [Array.length_toList] at this;omega
     rw [bu] at e1
     rcases e1 with ⟨rfl,e1⟩ | ⟨b,j,len,c,rfl,e1⟩
     .simp only [Rv] at hx
      exact ⟨.tuple #[],w,⟨ρ,_,_,_,.refl _,H,hu0,e1⟩,.inl λ_ _ _ _=>by simp [execOp,resolve,invoke,builtin,hx,Builtin.clear_,h0,run_underlying hu]⟩
     .rw [fJ] at e1
      simp only [Rv] at hx
      obtain ⟨L,cc,pp,hL,hx,hc,hle,hfit⟩:=hx
      rcases e1 with ⟨g,e1⟩ | ⟨g,e1⟩
      .have:=Nat.eq_of_beq_eq_true g
       subst this
       exact ⟨.tuple #[],w,⟨ρ,_,_,_,.refl _,H,hu0,e1⟩,.inl λ_ _ _ _=>by simp [execOp,resolve,invoke,builtin,hx,Builtin.clear_,h0,run_underlying hu]⟩
      .have hne:len≠0:=λh'=>by subst h';cases g
       obtain rfl:=(hc.pos (by omega)).symm
       rw [aj,nD,jD] at e1
       obtain ⟨hones,e1⟩:=e1
       obtain ⟨t',op,rs,old,hB',hlen,ho,e1⟩:=iD (β:=β) e1
       have hk:=H.width hB' hL
       unfold lS at e1
       simp only [ah,dQ] at e1
       obtain ⟨h',⟨B,hB2,t2,k2,op2,rs2,rfl,rs',hov,hh⟩,e1⟩:=e1
       cases hh
       rw [hB'] at hB2
       cases hB2
       have hlive:=H.live b _ L hB' hL
       obtain ⟨_,arr,harr,hsz,_⟩:=hlive
       have hlive:=H.live b _ L hB' hL
       rw [harr] at hlive
       have hnv:Rvs ρ (List.replicate len z).flatten (madeCells zr.cells (len * i.size)).toList:=by
        rw [fP zr.cells len i.size hzs hpos];exact hzv.repeat len
       obtain ⟨g1,g2⟩:=Rb.writeRows hlive hov hnv (λr hr=>by rw [(List.mem_replicate.1 hr).2];exact hzl)
       have hblk:Go.Eng.Blk w.heap L.c arr.toList t':=by unfold Go.Eng.Blk;rw [harr]
       have hone:∀ u ∈ (madeCells zr.cells (len * i.size)).toList,K9 u:=jr hones hnv
       obtain ⟨w',hp,hst⟩:=fM (P:=Pr) (madeCells zr.cells (len * i.size)).toList 0 ((L.o+j) * L.k) arr.toList w hblk (by simpa using g1) hone
       rw [Nat.add_zero] at hp
       have hzc:Builtin.zeroCells zr.cells len=madeCells zr.cells (len * i.size):=by unfold Builtin.zeroCells madeCells;rw [hzs]
       have hrun:(Builtin.clear_ ts ty #[.slice (some ⟨L.c,(L.o+j) * L.k,none⟩) len cc]).run Pr w= .ok (.tuple #[]) w':=by
        obtain ⟨q,rfl⟩:∃ q,len=q+1:=⟨len-1,by omega⟩;simp [Builtin.clear_,h0,run_underlying hu,zeroValue,typeInfo,hi,hz,hzc,hst]
       exact ⟨.tuple #[],w',⟨ρ,_,_,_,.refl _,H.turn hB' hL hp g2,hu0,e1⟩,.inl λ_ _ _ _=>by simp [execOp,resolve,invoke,builtin,hx,hrun]⟩
   case map k el=>
    obtain ⟨x,rfl,e1⟩:=fu (r:=r) e
    obtain ⟨o,rfl,hx⟩:=D3 f ha
    rw [bD] at e1
    rcases e1 with ⟨rfl,e2⟩ | ⟨b,rfl,e2⟩
    .simp only [Rv] at hx
     exact ⟨.tuple #[],w,⟨ρ,_,_,_,.refl _,H,hu0,e2⟩,.inl λ_ _ _ _=>by simp [execOp,resolve,invoke,builtin,hx,Builtin.clear_,h0,run_underlying hu]⟩
    .obtain ⟨es,c,hB,e3⟩:=bA (r:=r) e2
     simp only [Rv] at hx
     obtain ⟨L,hL,hx⟩:=hx
     obtain ⟨l,hl,hr,_⟩:=H.live b _ L hB hL
     have hget:(getObj L.c).run Pr w= .ok (.map l c) w:=by simp [getObj,Sem.run,hl]
     exact ⟨.tuple #[],_,⟨ρ,_,_,_,.refl _,kM (l':=#[]) H hB hL .nil (by simp),hu0,e3⟩,.inl λ_ _ _ _=>by simp [execOp,resolve,invoke,builtin,hx,Builtin.clear_,h0,run_underlying hu,hget,eX hl (by intros;simp)]⟩
end
end Go.Lk
namespace Go.Lk
open Go.Eng Go.RowKit
section
variable {ρ:Ren} {Pr:Program} {m:Nat} {w0:Base} {w:World} {ty t t':TypeId} {σ:T V} {τ:Nat->Value} {h:T Blk} {n:P} {run:fG} {β:Type} [Jn β] [JnOK β] {r:β} {kc:V->T Blk->P->Option β}
theorem bi {F':Fence} {op:Op} {K:Value->World->Prop} (he:fU Pr (ev m τ) w op ty K) {dst:Option Nat} {pos:String} {af:Array Edge} {g:Option (Nat × Bool)} {ds:List Deferred} {next:Act->World->Prop} {Q:Exit->Act->World->Prop}
  (hK:∀ x w',K x w'->next ((F m τ ds).put dst x) w'):Oper.uponIn F' 0 Pr ⟨dst,op,ty,pos,af,g⟩ (F m τ ds) next Q ((execOp (F m τ ds).eval ⟨dst,op,ty,pos,af,g⟩).run Pr w):=by
 obtain ⟨v,w',k,h1⟩:=he;rw [aP]
 rcases h1 with h1 | ⟨rfl,h1⟩
 .rw [h1,Oper.uponIn_value];exact hK _ _ k
 .rw [h1,Oper.uponIn_skip];exact hK _ _ k
theorem JR (hr:RunOK Pr run) {rr:Option Nat} (f:Fr ρ m σ τ) (H:Rh w0 ρ h n w) {fo:Operand} {as:Array Operand} {ts:Array TypeId} (e:(on (aJ fo σ) λf=>on (gq as.toList σ) λas=>vQ run f as h n kc)=some r)
  {dst:Option Nat} {pos:String} {af:Array Edge} {g:Option (Nat × Bool)} {ds:List Deferred} {next:Act->World->Prop} {Q:Exit->Act->World->Prop}
  (hK:∀ x w',Kx w0 ρ r kc x w'->next ((F m τ ds).put dst x) w'):Oper.uponIn (Fw rr) 0 Pr ⟨dst,.call { callee:=.value fo,args:=as,argTypes:=ts },ty,pos,af,g⟩ (F m τ ds) next Q ((execOp (F m τ ds).eval ⟨dst,.call { callee:=.value fo,args:=as,argTypes:=ts },ty,pos,af,g⟩).run Pr w):=by
 have _:True:=(λ(_:JnOK β)=>trivial) inferInstance;simp only [ah] at e;obtain ⟨fv,hfv,vs,hvs,e⟩:=e;have hfr:=av f hfv;have hvr:=dS f hvs;unfold vQ at e;rw [iq] at e;rw [aP]
 rcases e with ⟨fi,a,b,rfl,e⟩ | ⟨l,rfl,e⟩
 .rw [ah] at e;obtain ⟨⟨v,h',n'⟩,e1,e2⟩:=e
  replace e2:kc v h' n'=some r:=e2
  simp only [Rv] at hfr;obtain ⟨a',b',hfr,hx,hy⟩:=hfr
  have hargs:Rvs ρ (fF a (fF vs b)) (a'++as.map (ev m τ)++b').toList:=by
   simp only [il,Array.toList_append,Array.toList_map,List.append_assoc];exact hx.append (hvr.append hy)
  have fin:∀ e w',RQ w0 ρ (v,h',n') e w'->∃ x,e= .returned x/\next ((F m τ ds).put dst x) w':=by
   rintro e w' ⟨x,ρ',rfl,hle,H',hv⟩;exact ⟨x,rfl,hK _ _ ⟨ρ',v,h',n',hle,H',hv,e2⟩⟩
  rcases hr.call fi _ _ _ _ e1 w0 ρ w _ H hargs with ⟨hcf,hcall⟩ | ⟨_,x,w',hrun,hq⟩
  .have hrun:(execOp (ev m τ) ⟨dst,.call { callee:=.value fo,args:=as,argTypes:=ts },ty,pos,af,g⟩).run Pr w= .ok (.enter fi (a'++as.map (ev m τ)++b')) w:=by
    have:=hcf (a'++as.map (ev m τ)++b') w;simp only [Array.append_assoc] at this;simp [execOp,resolve,hfr,Deferred.ofValue,invoke,this]
   rw [hrun,Oper.uponIn_enter];refine ⟨mZ rr,mJ (hcall.mono λe w' q=>?_)⟩;obtain ⟨x,rfl,hn⟩:=fin e w' q;exact hn
  .have hrun':(execOp (ev m τ) ⟨dst,.call { callee:=.value fo,args:=as,argTypes:=ts },ty,pos,af,g⟩).run Pr w= .ok (.value x) w':=by
    simp only [Array.append_assoc] at hrun;simp [execOp,resolve,hfr,Deferred.ofValue,invoke,hrun]
   rw [hrun',Oper.uponIn_value];obtain ⟨y,hy,hn⟩:=fin _ _ hq;cases hy;exact hn
 .rw [ah] at e;obtain ⟨⟨v,h',n'⟩,e1,e2⟩:=e
  replace e2:kc v h' n'=some r:=e2
  simp only [Rv] at hfr;obtain ⟨L,hL,hfr⟩:=hfr;obtain ⟨rec,h1,h2,h3⟩:=hr.round l _ _ _ _ e1 w0 ρ w (as.map (ev m τ)) L H (by rw [Array.toList_map];exact hvr) hL;have hy:=run_yield (P:=Pr) h1 h2
  have hrun:(execOp (ev m τ) ⟨dst,.call { callee:=.value fo,args:=as,argTypes:=ts },ty,pos,af,g⟩).run Pr w= .ok (.round L.c rec.fn ((rec.params.zip (as.map (ev m τ))).foldl (λtmps (t,a)=>tmps.setIfInBounds t a) rec.tmps) rec.assign rec.body) w:=by
   simp [execOp,resolve,hfr,Deferred.ofValue,invoke,hy]
  rw [hrun,Oper.uponIn_round];refine ⟨mZ rr,?_⟩;have h4:RoundIn (Fw rr) 0 Pr L.c rec.fn ((rec.params.zip (as.map (ev m τ))).foldl (λtmps (t,a)=>tmps.setIfInBounds t a) rec.tmps) rec.assign rec.body w (RQ w0 ρ (v,h',n')):=by cases rr <;> exact h3
  refine h4.mono λe w' q=>?_;obtain ⟨x,ρ',rfl,hle,H',hv⟩:=q;exact hK _ _ ⟨ρ',v,h',n',hle,H',hv,e2⟩
theorem wU {β:Type} {r:β} {f:TypeId->V->Option β} {v:V} (e:V.onIface f v=some r):∃ t x,v= .iface t x/\f t x=some r:=by
 cases v <;> first | exact ⟨_,_,rfl,e⟩ | cases e
theorem Ej {t:TypeId} {name:String} {f:FuncId} (e:Dw Pr t name=some f) (v:Value) (w:World):(Go.method (Pr.types.size+Made.depth) t v name).run Pr w= .ok (f,v) w:=by
 unfold Dw at e
 cases hi:Pr.info? t with
 | none=>rw [hi] at e;cases e
 | some i=>
  rw [hi] at e
  simp only at e
  cases hm:i.methods.find? (·.name == name) with
  | none=>rw [hm] at e;cases e
  | some mt=>
   rw [hm] at e
   simp only at e
   split at e
   .rename_i hp hf hu
    cases e
    rw [show Pr.types.size+Made.depth=Nat.succ (Pr.types.size+(Made.depth-1)) from rfl]
    simp [Go.method,typeInfo,hi,hm,hp,hf,follow,receiverAt,run_underlying hu,Place.get]
   .cases e
theorem DV (hr:RunOK Pr run) {rr:Option Nat} (f:Fr ρ m σ τ) (H:Rh w0 ρ h n w) {xo:Operand} {name:String} {as:Array Operand} {ts:Array TypeId} (e:(on (aJ xo σ) λx=>on (gq as.toList σ) λas=>V.onIface (λt y=>on (Dw Pr t name) λf=>vQ run (.fn f [y] []) as h n kc) x)=some r)
  {dst:Option Nat} {pos:String} {af:Array Edge} {g:Option (Nat × Bool)} {ds:List Deferred} {next:Act->World->Prop} {Q:Exit->Act->World->Prop}
  (hK:∀ x w',Kx w0 ρ r kc x w'->next ((F m τ ds).put dst x) w'):Oper.uponIn (Fw rr) 0 Pr ⟨dst,.call { callee:=.invoke xo name,args:=as,argTypes:=ts },ty,pos,af,g⟩ (F m τ ds) next Q ((execOp (F m τ ds).eval ⟨dst,.call { callee:=.invoke xo name,args:=as,argTypes:=ts },ty,pos,af,g⟩).run Pr w):=by
 have _:True:=(λ(_:JnOK β)=>trivial) inferInstance;simp only [ah] at e;obtain ⟨xv,hxv,vs,hvs,e⟩:=e;have e9:=wU e;clear e;obtain ⟨t,y,rfl,e⟩:=e9;rw [ah] at e;obtain ⟨fi,hfi,e⟩:=e;have hxr:=av f hxv;have hvr:=dS f hvs;unfold vQ at e;rw [iq] at e;rw [aP]
 rcases e with ⟨fi',a,b,heq,e⟩ | ⟨l,heq,e⟩
 .cases heq
  rw [ah] at e;obtain ⟨⟨v,h',n'⟩,e1,e2⟩:=e
  replace e2:kc v h' n'=some r:=e2
  simp only [Rv] at hxr;obtain ⟨yv,hxr,hy⟩:=hxr
  have hargs:Rvs ρ (fF [y] (fF vs [])) (#[yv]++as.map (ev m τ)).toList:=by
   simp only [il,List.append_nil,Array.toList_append,Array.toList_map,List.cons_append,List.nil_append];simp only [Rvs];exact ⟨_,_,rfl,hy,hvr⟩
  have fin:∀ e w',RQ w0 ρ (v,h',n') e w'->∃ x,e= .returned x/\next ((F m τ ds).put dst x) w':=by
   rintro e w' ⟨x,ρ',rfl,hle,H',hv⟩;exact ⟨x,rfl,hK _ _ ⟨ρ',v,h',n',hle,H',hv,e2⟩⟩
  have hm:=Ej hfi yv w
  have hexec:(execOp (ev m τ) ⟨dst,.call { callee:=.invoke xo name,args:=as,argTypes:=ts },ty,pos,af,g⟩).run Pr w=(callFunc fi (#[yv]++as.map (ev m τ))).run Pr w:=by
   have h1:(#[Value.iface t yv]++as.map (ev m τ)).extract 1 (#[Value.iface t yv]++as.map (ev m τ)).size=as.map (ev m τ):=by
    apply Array.ext';simp only [Array.toList_extract,Array.toList_append,Array.toList_map,Array.size_append,Array.size_map,List.cons_append,List.nil_append,List.extract_eq_take_drop,List.drop_succ_cons,List.drop_zero,List.size_toArray,List.length_cons,List.length_nil];exact List.take_of_length_le (by simp)
   have h2:(#[Value.iface t yv]++as.map (ev m τ))[0]?=some (Value.iface t yv):=by rw [← Array.getElem?_toList,Array.toList_append];rfl
   simp only [execOp,resolve,hxr,invoke,Sem.run_bind,Sem.run_pure,Result.andThen_ok];rw [h2,h1];simp only [callMethod,Sem.run_bind,run_program,Result.andThen_ok];rw [hm];rfl
  rcases hr.call fi _ _ _ _ e1 w0 ρ w _ H hargs with ⟨hcf,hcall⟩ | ⟨_,x,w',hrun,hq⟩
  .rw [hexec,hcf,Oper.uponIn_enter];refine ⟨mZ rr,mJ (hcall.mono λe w' q=>?_)⟩;obtain ⟨x,rfl,hn⟩:=fin e w' q;exact hn
  .rw [hexec,hrun,Oper.uponIn_value];obtain ⟨y,hy,hn⟩:=fin _ _ hq;cases hy;exact hn
 .cases heq
theorem I6 (β:Type) [Jn β] [JnOK β] (Pr:Program) (m:Nat):CW β Pr m:=by
 intro op ty run hr rr w0 ρ σ τ h n kc r w f H e hnd dst pos af g ds next Q hK
 cases hq:dJ Pr op with
 | true=>
  obtain ⟨v,h1,h2⟩:=Fe hq e
  obtain ⟨u,h3,h4⟩:=tH (ty:=ty) H f hq h1
  exact bi (K:=Kx w0 ρ r kc) ⟨u,w,⟨ρ,v,h,n,.refl _,H,h4,h2⟩,.inl h3⟩ hK
 | false=>
  cases op
  case alloc t=>
   replace e:(Option.rec (λ_ _ _ _ _=>none) (λz _ _ h n k=>eB (uo t z) (.ptr n 0 0) h n k) (zN Pr t):OX β) run σ h n kc=some r:=e
   cases hz:zN Pr t with
   | none=>rw [hz] at e;cases e
   | some z=>rw [hz] at e;exact bi (Jw H hz e) hK
  case box t x=>exact bi (NZ H f e) hK
  case buildSlice t len parts=>exact bi (uq (run:=run) H f e) hK
  case insert t mo ko vo=>exact bi (mV H f e).2 hK
  case store t a x=>exact bi (FM (run:=run) H f e) hK
  case convert s d x=>
   unfold dJ at hq
   simp only at hq
   refine bi (Me H f (λk hk=>?_) (λhk=>?_) (λb hk=>?_) e) hK <;> (rw [hk] at hq;cases hq)
  case makeMap t rs=>
   cases rs with
   | none=>exact bi (zZ H e) hK
   | some x=>exact bi (zQ H f e) hK
  case makeSlice t l c=>exact bi (wH (run:=run) H f e) hK
  case mapUpdate t mo ko vo=>exact bi (mV H f e).1 hK
  case mapEntry t mo ko=>exact bi (xI H f e) hK
  case entryStore t mo so vo=>exact bi (ug H f e) hK
  case range t x=>exact bi (GA H f e) hK
  case next it s=>
   cases s with
   | true=>exact bi (Fg (run:=run) H f e) hK
   | false=>exact bi (EJ (run:=run) H f e) hK
  case call c=>
   obtain ⟨callee,as,ts⟩:=c
   cases callee with
   | value fo=>exact JR hr f H e hK
   | invoke xo name=>exact DV hr f H e hK
   | builtin b=>
    replace e:on (gq as.toList σ) (λas=>aR Pr b ts as h n kc)=some r:=e
    rw [ah] at e
    obtain ⟨vs,ha,e⟩:=e
    cases b <;> first | (cases hq;done) | (cases e;done) | exact bi (E5 H f ha e) hK | exact bi (Ge H f ha e) hK
  case defer c=>cases hnd
  all_goals first | (cases hq;done) | (cases e;done)
end
end Go.Lk
