/- A lean reckoner for closed runs: loops, scopes inside a fence. Over any program. -/
import Derived.Test.YtljfgmedbjlkaaaGreatLkG
import Derived.RangeFuncLeaves
import Derived.OrdersIn
import Derived.Test.YtljfgmedbjlkaaaGreatLkQ
import Derived.RangeFuncRecord
namespace Go.Lk
open Go.Eng Go.RowKit
section
variable {F:Fence} {n:Nat} {P:Program} {Q:Exit->Act->World->Prop} {a:Act} {w:World}
theorem Bt {c:Code} (I:Nat->Act->World->Prop) (j:Nat) (h0:I j a w)
  (round:∀ j a w,I j a w->c.wpIn F n P (Exit.then (λa' w'=>∃ j',j'<j/\I j' a' w') Q) a w):(Code.loop c).wpIn F n P Q a w:=by
 intro b k cs hro hb hr
 have key:∀ j a w,I j a w->∃ e a' w',Q e a' w'/\ArrivesIn (Machine.fenced P F) P (lone (b.atR a (.code c::.inLoop c::k)) cs w) b k cs e a' w':=by
  intro j
  induction j using Nat.strongRecOn with
  | _ j ih=>
   intro a w hI
   obtain ⟨e,a₁,w₁,hq,harr⟩:=round j a w hI b (.inLoop c::k) cs hro hb hr
   cases e with
   | normal=>
    obtain ⟨j',hlt,hI'⟩:=hq
    obtain ⟨e₂,a₂,w₂,hq₂,harr₂⟩:=ih j' hlt a₁ w₁ hI'
    exact ⟨e₂,a₂,w₂,hq₂,.of_steps (StepsIn.trans harr (.one (fenced_calm hb hr rfl) stepR_inLoop)) harr₂⟩
   | exit id=>exact ⟨_,a₁,w₁,hq,.pass (x:=.inLoop c) rfl (λ_ _=>.inl (by simp)) harr⟩
   | goto l=>exact ⟨_,a₁,w₁,hq,.pass (x:=.inLoop c) rfl (λ_ _=>.inl (by simp)) harr⟩
   | ret=>exact ⟨_,a₁,w₁,hq,.pass (x:=.inLoop c) rfl (λ_ _=>.inl (by simp)) harr⟩
   | panic ch=>exact ⟨_,a₁,w₁,hq,.pass (x:=.inLoop c) rfl (λ_ _=>.inl (by simp)) harr⟩
   | outgrown=>exact ⟨_,a₁,w₁,hq,.pass (x:=.inLoop c) rfl (λ_ _=>.inl (by simp)) harr⟩
 obtain ⟨e,a',w',hq,harr⟩:=key j a w h0;exact ⟨e,a',w',hq,.of_steps (.one (fenced_calm hb hr rfl) stepR_loop) harr⟩
def Ag (c:Code) (J:Code->Act->World->Prop) (Q:Exit->Act->World->Prop):Exit->Act->World->Prop
 | .goto l,a,w=>match findLabel c l with
  | some rest=>J rest a w
  | none=>Q (.goto l) a w
 | e,a,w=>Q e a w
theorem yC {b:Frame} {k:List Item} {cs:List Frame} {c:Code}:step P (lone (b.atR a (.code (.scope c)::k)) cs w)= .next (lone (b.atR a (.code c::.inScope c::k)) cs w):=
 step_lone_go (by simp [stepG,stepG.exec,Frame.atR])
theorem tX {b:Frame} {k:List Item} {cs:List Frame} {c:Code}:step P (lone (b.atR a (.inScope c::k)) cs w)= .next (lone (b.atR a k) cs w):=
 step_lone_go (by simp [stepG,stepG.exec,Frame.atR])
theorem yS {c:Code} (I:Nat->Code->Act->World->Prop) (j:Nat) (h0:I j c a w)
  (round:∀ j rest a w,I j rest a w->rest.wpIn F n P (Ag c (λrest' a' w'=>∃ j',j'<j/\I j' rest' a' w') Q) a w):(Code.scope c).wpIn F n P Q a w:=by
 intro b k cs hro hb hr
 have key:∀ j rest a w,I j rest a w->∃ e a' w',Q e a' w'/\ArrivesIn (Machine.fenced P F) P (lone (b.atR a (.code rest::.inScope c::k)) cs w) b k cs e a' w':=by
  intro j
  induction j using Nat.strongRecOn with
  | _ j ih=>
   intro rest a w hI
   obtain ⟨e,a₁,w₁,hq,harr⟩:=round j rest a w hI b (.inScope c::k) cs hro hb hr
   cases e with
   | normal=>exact ⟨.normal,a₁,w₁,hq,StepsIn.trans harr (.one (fenced_calm hb hr rfl) tX)⟩
   | exit id=>
    have hx:exitTo id (.inScope c::k)=exitTo id k:=by simp [exitTo]
    exact ⟨.exit id,a₁,w₁,hq,λk' hk=>harr.1 k' (by rw [hx];exact hk),λhr' hk=>let ⟨k₁,h1,h2⟩:=harr.2 hr' (by rw [hx];exact hk);⟨k₁,h1,h2⟩⟩
   | goto l=>
    simp only [Ag] at hq
    cases hf:findLabel c l with
    | some rest'=>
     rw [hf] at hq
     obtain ⟨j',hlt,hI'⟩:=hq
     obtain ⟨e₂,a₂,w₂,hq₂,harr₂⟩:=ih j' hlt rest' a₁ w₁ hI'
     exact ⟨e₂,a₂,w₂,hq₂,.of_steps (harr.1 _ (by simp [gotoIn,hf])) harr₂⟩
    | none=>
     rw [hf] at hq
     have hx:gotoIn l (.inScope c::k)=gotoIn l k:=by simp [gotoIn,hf]
     exact ⟨.goto l,a₁,w₁,hq,λk' hk=>harr.1 k' (by rw [hx];exact hk),λhr' hk=>let ⟨k₁,h1,h2⟩:=harr.2 hr' (by rw [hx];exact hk);⟨k₁,h1,h2⟩⟩
   | ret=>exact ⟨_,a₁,w₁,hq,harr⟩
   | panic ch=>exact ⟨_,a₁,w₁,hq,harr⟩
   | outgrown=>exact ⟨_,a₁,w₁,hq,harr⟩
 obtain ⟨e,a',w',hq,harr⟩:=key j c a w h0;exact ⟨e,a',w',hq,.of_steps (.one (fenced_calm hb hr rfl) yC) harr⟩
end
def Rd (ρ:Ren):D->Deferred->Prop
 | .call f as,d=>∃ cap,d.target= .fn (.func f) cap/\Rvs ρ as (d.args++cap).toList
 | .mark b,d=>∃ L,ρ b=some L/\d.target= .collected L.c
theorem Rd.mono {ρ ρ':Ren} (h:ρ.le ρ') {d:D} {e:Deferred} (r:Rd ρ d e):Rd ρ' d e:=by
 cases d with
 | call f as=>obtain ⟨c,h1,h2⟩:=r;exact ⟨c,h1,h2.mono h⟩
 | mark b=>obtain ⟨L,h1,h2⟩:=r;exact ⟨L,h _ _ h1,h2⟩
structure St (w0:Base) (ρ:Ren) (m:Nat) (σ:T V) (ds:List D) (h:T Blk) (n:P) (a:Act) (w:World):Prop where
 fr:∃ τ dsr,a=F m τ dsr/\Fr ρ m σ τ/\All2 (Rd ρ) ds dsr
 hp:Rh w0 ρ h n w
section
variable {β:Type} [Jn β] [JnOK β]
def KQ (w0:Base) (ρ:Ren) (m:Nat) (r:β) (k:KN β) (a:Act) (w:World):Prop:=∃ ρ' σ ds h n,ρ.le ρ'/\St w0 ρ' m σ ds h n a w/\k σ ds h n=some r
theorem KQ.mono {w0:Base} {ρ ρ':Ren} {m:Nat} {r:β} {k:KN β} {a:Act} {w:World} (h:ρ.le ρ') (q:KQ w0 ρ' m r k a w):KQ w0 ρ m r k a w:=by
 have _:True:=(λ(_:JnOK β)=>trivial) inferInstance;obtain ⟨ρ1,σ,ds,hh,n,h1,h2,h3⟩:=q;exact ⟨ρ1,σ,ds,hh,n,h.trans h1,h2,h3⟩
def PQ (w0:Base) (ρ:Ren) (m:Nat) (r:β) (kn:KN β) (kx:X->KN β):Exit->Act->World->Prop
 | .normal,a,w=>KQ w0 ρ m r kn a w
 | .exit i,a,w=>KQ w0 ρ m r (kx (.exit i)) a w
 | .goto l,a,w=>KQ w0 ρ m r (kx (.goto l)) a w
 | .ret,a,w=>KQ w0 ρ m r (kx .ret) a w
 | _,_,_=>False
theorem PQ.mono {w0:Base} {ρ ρ':Ren} {m:Nat} {r:β} {kn:KN β} {kx:X->KN β} {e:Exit} {a:Act} {w:World} (h:ρ.le ρ') (q:PQ w0 ρ' m r kn kx e a w):PQ w0 ρ m r kn kx e a w:=by
 cases e <;> first | exact KQ.mono h q | exact q.elim
end
def Fw:Option Nat->Fence
 | none=>Fence.wide
 | some l=>Fence.wide.inRound l
theorem yT (r:Option Nat) (f:FuncId):(Fw r).fn f:=by cases r <;> trivial
theorem mZ (r:Option Nat):(Fw r).depth.isSome=true->1<=0:=by cases r <;> intro h <;> cases h
def RdR (ρ:Ren):Option P->Option Nat->Prop
 | none,none=>True
 | some b,some c=>∃ L,ρ b=some L/\c=L.c
 | _,_=>False
theorem RdR.mono {ρ ρ':Ren} (h:ρ.le ρ') {d:Option P} {e:Option Nat} (r:RdR ρ d e):RdR ρ' d e:=by
 cases d <;> cases e <;> first | exact r | (obtain ⟨L,h1,h2⟩:=r;exact ⟨L,h _ _ h1,h2⟩)
theorem mJ {Pr:Program} {r:Option Nat} {f:FuncId} {args:Array Value} {w:World} {R:Ending->World->Prop} (h:CallsIn Fence.wide 0 Pr f args w R):CallsIn (Fw r) 0 Pr f args w R:=by
 cases r <;> exact h
def RQ (w0:Base) (ρ:Ren) (res:jI) (e:Ending) (w':World):Prop:=∃ x ρ',e= .returned x/\ρ.le ρ'/\Rh w0 ρ' res.2.1 res.2.2 w'/\Rv ρ' res.1 x
def o7 (Pr:Program) (f:FuncId) (args:Array Value) (w:World) (R:Ending->World->Prop):Prop:=
 (CF Pr f/\CallsIn Fence.wide 0 Pr f args w R)\/dG Pr f=none/\∃ x w',(callFunc f args).run Pr w= .ok (.value x) w'/\R (.returned x) w'
structure RunOK (Pr:Program) (run:fG):Prop where
 call:∀ f as h n res,run (.call f as) h n=some res->∀ w0 ρ w args,Rh w0 ρ h n w->Rvs ρ as args.toList->o7 Pr f args w (RQ w0 ρ res)
 dcall:∀ f as h n res,run (.dcall f as) h n=some res->∀ w0 ρ w args,Rh w0 ρ h n w->Rvs ρ as args.toList->CF Pr f/\CallsDIn Fence.wide 0 Pr f args .returning w λe u' w'=>u'= .returning/\RQ w0 ρ res e w'
 round:∀ l as h n res,run (.round l as) h n=some res->∀ w0 ρ w args L,Rh w0 ρ h n w->Rvs ρ as args.toList->ρ l=some L->
  ∃ r,w.heap[L.c]?=some (.loop r)/\args.size=r.params.size/\RoundIn Fence.wide 0 Pr L.c r.fn ((r.params.zip args).foldl (λtmps (t,a)=>tmps.setIfInBounds t a) r.tmps) r.assign r.body w (RQ w0 ρ res)
end Go.Lk
namespace Go.Lk
open Go.Eng Go.RowKit
section
variable {β:Type} [Jn β] [JnOK β] {Pr:Program} {m:Nat}
def EXok (Pr:Program) (m:Nat) (g:EX β) (c:Code):Prop:=∀ run,RunOK Pr run->∀ rd rr w0 ρ σ ds h n kn kx r a w,RdR ρ rd rr->St w0 ρ m σ ds h n a w->g run rd σ ds h n kn kx=some r->c.wpIn (Fw rr) 0 Pr (PQ w0 ρ m r kn kx) a w
def FRok (Pr:Program) (m:Nat) (f:Nat->Option (EX β)) (c:Code):Prop:=∀ l,(∀ g,f l=some g->∃ rest,findLabel c l=some rest/\EXok Pr m g rest)/\(f l=none->findLabel c l=none)
theorem FRok.none {c:Code} (h:∀ l,findLabel c l=none):FRok (β:=β) Pr m (λ_=>none) c:=have _:True:=(λ(_:JnOK β)=>trivial) inferInstance;λl=>⟨λg e=>(by cases e),λ_=>h l⟩
theorem KQ.here {w0:Base} {ρ:Ren} {σ:T V} {ds:List D} {h:T Blk} {n:P} {a:Act} {w:World} {k:KN β} {r:β} (hs:St w0 ρ m σ ds h n a w) (e:k σ ds h n=some r):KQ w0 ρ m r k a w:=have _:True:=(λ(_:JnOK β)=>trivial) inferInstance;⟨ρ,σ,ds,h,n,.refl _,hs,e⟩
theorem EXok.seq {g g':EX β} {x y:Code} (hx:EXok Pr m g x) (hy:EXok Pr m g' y):EXok Pr m (λrun rd σ ds h n kn kx=>g run rd σ ds h n (λσ ds h n=>g' run rd σ ds h n kn kx) kx) (.seq x y):=by
 intro run hr rd rr w0 ρ σ ds h n kn kx r a w hrd hs e;refine wpIn_seq (wpIn_mono (hx run hr rd rr w0 ρ σ ds h n _ kx r a w hrd hs e) λx a w q=>?_)
 cases x with
 | normal=>
  obtain ⟨ρ',σ',ds',h',n',hle,hs',e'⟩:=q
  exact wpIn_mono (hy run hr rd rr w0 ρ' σ' ds' h' n' kn kx r a w (hrd.mono hle) hs' e') λ_ _ _ q=>q.mono hle
 | exit=>exact q
 | goto=>exact q
 | ret=>exact q
 | panic=>exact q
 | outgrown=>exact q
theorem EXok.block {g:EX β} {c:Code} (hc:EXok Pr m g c) (id:Nat):EXok (β:=β) Pr m (wP id g) (.block id c):=by
 have _:True:=(λ(_:JnOK β)=>trivial) inferInstance;intro run hr rd rr w0 ρ σ ds h n kn kx r a w hrd hs e;refine wpIn_block (wpIn_mono (hc run hr rd rr w0 ρ σ ds h n _ _ r a w hrd hs e) λx a w q=>?_)
 cases x with
 | normal=>exact q
 | exit i=>
  simp only [Exit.inBlock]
  by_cases hi:i=id
  .subst hi
   simp only [PQ,Nat.beq_refl] at q
   rw [if_pos rfl];exact q
  .have:Nat.beq i id=false:=by cases hb:Nat.beq i id;rfl;exact absurd (Nat.eq_of_beq_eq_true hb) hi
   simp only [PQ,this] at q
   rw [if_neg hi];exact q
 | goto=>exact q
 | ret=>exact q
 | panic=>exact q
 | outgrown=>exact q
theorem EXok.loop {g:EX β} {c:Code} (hc:EXok Pr m g c):EXok (β:=β) Pr m (Di g) (.loop c):=by
 intro run hr rd rr w0 ρ σ ds h n kn kx r a w hrd hs e;refine Bt (λj a w=>KQ w0 ρ m r (ME g run rd kx j) a w) 1000000 (.here hs e) λj a w q=>?_;obtain ⟨ρ',σ',ds',h',n',hle,hs',e'⟩:=q
 cases j with
 | zero=>cases e'
 | succ j=>
  refine wpIn_mono (hc run hr rd rr w0 ρ' σ' ds' h' n' _ kx r a w (hrd.mono hle) hs' e') λx a w q=>?_
  have q:=PQ.mono hle q
  cases x with
  | normal=>exact ⟨j,Nat.lt_succ_self j,q⟩
  | exit=>exact q
  | goto=>exact q
  | ret=>exact q
  | panic=>exact q
  | outgrown=>exact q
theorem EXok.scope {g:EX β} {f:Nat->Option (EX β)} {c:Code} (hc:EXok Pr m g c) (hf:FRok Pr m f c):EXok (β:=β) Pr m (wz g f) (.scope c):=by
 intro run hr rd rr w0 ρ σ ds h n kn kx r a w hrd hs e;refine yS (λj rest a w=>∃ g,EXok Pr m g rest/\KQ w0 ρ m r (GK run rd kn kx f j g) a w) 100000 ⟨g,hc,.here hs e⟩ λj rest a w q=>?_;obtain ⟨g,hg,ρ',σ',ds',h',n',hle,hs',e'⟩:=q
 cases j with
 | zero=>cases e'
 | succ j=>
  refine wpIn_mono (hg run hr rd rr w0 ρ' σ' ds' h' n' _ _ r a w (hrd.mono hle) hs' e') λx a w q=>?_
  have q:=PQ.mono hle q
  cases x with
  | normal=>exact q
  | exit=>exact q
  | goto l=>
   simp only [PQ,JD] at q
   simp only [Ag]
   cases hfl:f l with
   | none=>
    rw [(hf l).2 hfl]
    rw [hfl] at q;exact q
   | some g'=>
    obtain ⟨rest',h1,h2⟩:=(hf l).1 g' hfl
    rw [h1]
    rw [hfl] at q
    exact ⟨j,Nat.lt_succ_self j,g',h2,q⟩
  | ret=>exact q
  | panic=>exact q
  | outgrown=>exact q
theorem EXok.cond {g g':EX β} {x y:Code} (hx:EXok Pr m g x) (hy:EXok Pr m g' y) (c:Operand):EXok Pr m (λrun rd σ ds h n kn kx=>RA c σ λt=>Bool.rec (g' run rd σ ds h n kn kx) (g run rd σ ds h n kn kx) t) (.cond c x y):=by
 have _:True:=(λ(_:JnOK β)=>trivial) inferInstance;intro run hr rd rr w0 ρ σ ds h n kn kx r a w hrd hs e;unfold RA at e;simp only [ah,fB] at e;obtain ⟨_,hv,t,rfl,e⟩:=e;obtain ⟨τ,dsr,rfl,hf,hd⟩:=hs.fr;have hc:=av hf hv;simp only [Rv] at hc;rw [← aP m τ dsr] at hc
 cases t with
 | true=>exact wpIn_cond_true hc (hx run hr rd rr w0 ρ σ ds h n kn kx r _ w hrd hs e)
 | false=>exact wpIn_cond_false hc (hy run hr rd rr w0 ρ σ ds h n kn kx r _ w hrd hs e)
structure PartsOK (β:Type) [Jn β] (Pr:Program) (m:Nat):Prop where
 region:∀ id ops draw,EXok (β:=β) Pr m (λrun rd σ ds h n kn _=>Ir Pr ops draw run rd σ ds h n kn) (.region id ops draw)
 range:∀ g ps asg body,EXok (β:=β) Pr m (rangeX Pr m g ps.toList asg body) (.rangeFunc g ps asg body)
attribute [local irreducible] Di wz wP rangeX Ir
theorem GH (hp:PartsOK β Pr m):∀ c:Code,EXok (β:=β) Pr m (yh Pr m c).1 c/\FRok (β:=β) Pr m (yh Pr m c).2 c:=by
 intro c
 induction c with
 | skip=>exact ⟨λrun hr rd rr w0 ρ σ ds h n kn kx r a w hrd hs e=>wpIn_skip (KQ.here hs e),.none λ_=>rfl⟩
 | region id ops draw=>exact ⟨hp.region id ops draw,.none λ_=>rfl⟩
 | seq x y ihx ihy=>
  refine ⟨(EXok.seq ihx.1 ihy.1:EXok (β:=β) Pr m (λrun rd σ ds h n kn kx=>(yh Pr m x).1 run rd σ ds h n (λσ ds h n=>(yh Pr m y).1 run rd σ ds h n kn kx) kx) (.seq x y)),λl=>?_⟩
  have hl:(yh Pr m (.seq x y)).2 l=(Option.rec ((yh Pr m y).2 l) (λg=>some λrun rd σ ds h n kn kx=>g run rd σ ds h n (λσ ds h n=>(yh Pr m y).1 run rd σ ds h n kn kx) kx) ((yh Pr m x).2 l):Option (EX β)):=rfl
  rw [hl]
  cases hx:(yh (β:=β) Pr m x).2 l with
  | none=>
   simp only [findLabel,(ihx.2 l).2 hx]
   exact ihy.2 l
  | some g=>
   obtain ⟨rest,h1,h2⟩:=(ihx.2 l).1 g hx
   simp only [findLabel,h1]
   exact ⟨λg' e=>by cases e;exact ⟨_,rfl,h2.seq ihy.1⟩,λe=>by cases e⟩
 | cond c x y ihx ihy=>exact ⟨(EXok.cond ihx.1 ihy.1 c:EXok (β:=β) Pr m (λrun rd σ ds h n kn kx=>RA c σ λt=>Bool.rec ((yh Pr m y).1 run rd σ ds h n kn kx) ((yh Pr m x).1 run rd σ ds h n kn kx) t) (.cond c x y)),.none λ_=>rfl⟩
 | block id c ih=>exact ⟨(EXok.block ih.1 id:EXok (β:=β) Pr m (wP id (yh Pr m c).1) (.block id c)),.none λ_=>rfl⟩
 | loop c ih=>exact ⟨(EXok.loop ih.1:EXok (β:=β) Pr m (Di (yh Pr m c).1) (.loop c)),.none λ_=>rfl⟩
 | rangeFunc g ps asg body _ _=>exact ⟨hp.range g ps asg body,.none λ_=>rfl⟩
 | exit id=>exact ⟨λrun hr rd rr w0 ρ σ ds h n kn kx r a w hrd hs e=>wpIn_exit (KQ.here hs e),.none λ_=>rfl⟩
 | scope c ih=>exact ⟨(EXok.scope ih.1 ih.2:EXok (β:=β) Pr m (wz (yh Pr m c).1 (yh Pr m c).2) (.scope c)),.none λ_=>rfl⟩
 | label l=>
  refine ⟨λrun hr rd rr w0 ρ σ ds h n kn kx r a w hrd hs e=>wpIn_label (KQ.here hs e),λl'=>?_⟩
  have hl:(yh (β:=β) Pr m (.label l)).2 l'=(Bool.rec none (some λ_ _ σ ds h n kn _=>kn σ ds h n) (Nat.beq l l'):Option (EX β)):=rfl
  rw [hl]
  by_cases e:l=l'
  .subst e
   simp only [Nat.beq_refl,findLabel,beq_self_eq_true,if_true]
   exact ⟨λg e=>by cases e;exact ⟨_,rfl,λrun hr rd rr w0 ρ σ ds h n kn kx r a w hrd hs e=>wpIn_skip (KQ.here hs e)⟩,λe=>by cases e⟩
  .have:Nat.beq l l'=false:=by cases hb:Nat.beq l l';rfl;exact absurd (Nat.eq_of_beq_eq_true hb) e
   rw [this]
   have h2:(l == l')=false:=by simp [e]
   exact ⟨λg e=>(by cases e),λ_=>(by simp [findLabel,h2])⟩
 | goto l=>exact ⟨λrun hr rd rr w0 ρ σ ds h n kn kx r a w hrd hs e=>wpIn_goto (KQ.here hs e),.none λ_=>rfl⟩
 | ret=>exact ⟨λrun hr rd rr w0 ρ σ ds h n kn kx r a w hrd hs e=>wpIn_ret (KQ.here hs e),.none λ_=>rfl⟩
 | refuse _=>exact ⟨λrun hr rd rr w0 ρ σ ds h n kn kx r a w hrd hs e=>(by cases e),.none λ_=>rfl⟩
end
end Go.Lk
namespace Go.Lk
open Go.Eng Go.RowKit
section
variable {β:Type} [Jn β] [JnOK β] {Pr:Program} {m:Nat}
def CW (β:Type) [Jn β] (Pr:Program) (m:Nat):Prop:=∀ (op:Op) (ty:TypeId) (run:fG),RunOK Pr run->∀ (rr:Option Nat) (w0:Base) (ρ:Ren) (σ:T V) (τ:Nat->Value) (h:T Blk) (n:P) (k:V->T Blk->P->Option β) (r:β) (w:World),
 Fr ρ m σ τ->Rh w0 ρ h n w->ye Pr op run σ h n k=some r->dK op=false->∀ (dst:Option Nat) (pos:String) (af:Array Edge) (g:Option (Nat × Bool)) (ds:List Deferred) (next:Act->World->Prop) (Q:Exit->Act->World->Prop),
 (∀ x w',Kx w0 ρ r k x w'->next ((F m τ ds).put dst x) w')->Oper.uponIn (Fw rr) 0 Pr ⟨dst,op,ty,pos,af,g⟩ (F m τ ds) next Q ((execOp (F m τ ds).eval ⟨dst,op,ty,pos,af,g⟩).run Pr w)
theorem HY {ρ:Ren} {σ:T V} {τ:Nat->Value} {dst:Option Nat} {v:V} {x:Value} {ds:List Deferred} (f:Fr ρ m σ τ) (hv:Rv ρ v x):∃ τ',(F m τ ds).put dst x=F m τ' ds/\Fr ρ m (ep dst v σ) τ':=by
 cases dst with
 | none=>exact ⟨τ,rfl,f⟩
 | some d=>exact ⟨_,fT ..,f.set hv d⟩
theorem All2.mono' {ρ ρ':Ren} (h:ρ.le ρ') {ds:List D} {dsr:List Deferred} (a:All2 (Rd ρ) ds dsr):All2 (Rd ρ') ds dsr:=a.imp λ_ _=>Rd.mono h
theorem Kx.put {w0:Base} {ρ:Ren} {r:β} {σ:T V} {τ:Nat->Value} {ds:List D} {dsr:List Deferred} {dst:Option Nat} {k:KN β} {x:Value} {w:World} (f:Fr ρ m σ τ) (hd:All2 (Rd ρ) ds dsr)
  (q:Kx w0 ρ r (λv h n=>k (ep dst v σ) ds h n) x w):KQ w0 ρ m r k ((F m τ dsr).put dst x) w:=by
 have _:True:=(λ(_:JnOK β)=>trivial) inferInstance;obtain ⟨ρ',v,h',n',hle,hp,hv,e⟩:=q;obtain ⟨τ',h1,h2⟩:=HY (ds:=dsr) (dst:=dst) (f.mono hle) hv;exact ⟨ρ',_,ds,h',n',hle,⟨⟨τ',dsr,h1,h2,All2.mono' hle hd⟩,hp⟩,e⟩
theorem oG {β:Type} {r:β} {f:Bool->Option β} {g:Option β} {v:V}:V.onGuard f g v=some r↔(∃ b,v= .bool b/\f b=some r)\/(∃ l,v= .tup l/\g=some r):=by
 cases v <;> constructor <;> intro h <;> first | exact .inl ⟨_,rfl,h⟩ | exact .inr ⟨_,rfl,h⟩ | (rcases h with ⟨_,h,h'⟩ | ⟨_,h,h'⟩ <;> cases h <;> exact h') | cases h
theorem sP {ops:Array Oper} {τ:Nat->Value} {ds:List Deferred} {j t:Nat} {b:Bool} {dst:Option Nat} {op:Op} {ty:TypeId} {pos:String} {af:Array Edge} {a:Array Value} (hj:(ops[j]?).bind (·.dst)=some t) (ht:τ t= .tuple a) (hlt:t<m) :
  Region.wanted ⟨dst,op,ty,pos,af,some (j,b)⟩ (yielded ops (F m τ ds).tmps)=false:=by
 simp only [Region.wanted,yielded,hj,F,Option.bind_some,iL,if_pos hlt,ht];rfl
def Rp (F:Fence) (Pr:Program) (ops:Array Oper) (o:Oper) (a:Act) (w:World) (K:Act->World->Prop) (Q:Exit->Act->World->Prop):Prop:=
 if Region.wanted o (yielded ops a.tmps) then o.wpIn F 0 Pr a w K Q else (∀ f,o.about Pr w a.eval=some f->F.fn f)/\K (a.put o.dst undef) w
theorem Hg {rr:Option Nat} {ev:Operand->Value} {o:Oper} (h:dK o.op=false):o.semAt (Fw rr).round ev=execOp ev o:=by
 cases rr with
 | none=>exact Oper.semAt_none ev o
 | some l=>exact Oper.semAt_some l ev o (λc hc=>by rw [hc] at h;cases h)
theorem KO (hop:CW β Pr m) {ops:Array Oper} {o:Oper} {run:fG} (hr:RunOK Pr run) {rd:Option P} {rr:Option Nat} {w0:Base} {ρ:Ren} {σ:T V} {ds:List D} {h:T Blk} {n:P} {k:KN β} {r:β} {a:Act} {w:World}
  (hrd:RdR ρ rd rr) (hs:St w0 ρ m σ ds h n a w) (e:Ip Pr ops o run rd σ ds h n k=some r) {K:Act->World->Prop} {Q:Exit->Act->World->Prop} (hK:∀ a w,KQ w0 ρ m r k a w->K a w):Rp (Fw rr) Pr ops o a w K Q:=by
 obtain ⟨dst,op,ty,pos,af,g⟩:=o;obtain ⟨τ,dsr,rfl,hf,hd⟩:=hs.fr
 have plain:∀ g,dK op=false->ye Pr op run σ h n (λv h n=>k (ep dst v σ) ds h n)=some r->Oper.wpIn (Fw rr) 0 Pr ⟨dst,op,ty,pos,af,g⟩ (F m τ dsr) w K Q:=by
  intro g hnd e;refine ⟨λf _=>yT rr f,?_⟩;rw [Hg hnd];exact hop op ty run hr rr w0 ρ σ τ h n _ r w hf hs.hp e hnd dst pos af g dsr K Q λx w' q=>hK _ _ (q.put hf hd)
 cases g with
 | none=>
  unfold Rp
  simp only [Region.wanted,if_true]
  cases hnd:dK op with
  | false=>
   have e':(Bool.rec (λrun _ σ ds h n k=>ye Pr op run σ h n λv h n=>k (ep dst v σ) ds h n) (FR Pr ⟨dst,op,ty,pos,af,none⟩) (dK op):fG->Option P->T V->List D->T Blk->P->KN β->Option β) run rd σ ds h n k=some r:=e
   rw [hnd] at e'
   exact plain none hnd e'
  | true=>
   have e':(Bool.rec (λrun _ σ ds h n k=>ye Pr op run σ h n λv h n=>k (ep dst v σ) ds h n) (FR Pr ⟨dst,op,ty,pos,af,none⟩) (dK op):fG->Option P->T V->List D->T Blk->P->KN β->Option β) run rd σ ds h n k=some r:=e
   rw [hnd] at e'
   cases op <;> first | (cases hnd;done) | skip
   rename_i c
   obtain ⟨callee,as,ts⟩:=c
   cases callee with
   | invoke=>cases e'
   | builtin=>cases e'
   | value fo=>
    have e2:(on (aJ fo σ) λf=>on (gq as.toList σ) λas=>V.onFn (λf a b=>Option.rec (k (ep dst aS σ) (.call f (fF a (fF as b))::ds) h n) (λ_=>none) rd) (λ_=>none) f)=some r:=e'
    simp only [ah] at e2
    obtain ⟨fv,hfv,vs,hvs,e2⟩:=e2
    rw [iq] at e2
    rcases e2 with ⟨g,x,y,rfl,e2⟩ | ⟨_,_,e2⟩
    .cases rd with
     | some _=>cases e2
     | none=>
      cases rr with
      | some _=>exact hrd.elim
      | none=>
       have hfr:=av hf hfv
       simp only [Rv] at hfr
       obtain ⟨x',y',hfr,hx,hy⟩:=hfr
       have hvr:=dS hf hvs
       refine ⟨λf _=>trivial,?_⟩
       have hsem:Oper.semAt (Fw none).round (F m τ dsr).eval ⟨dst,.defer { callee:=.value fo,args:=as,argTypes:=ts },ty,pos,af,none⟩=execOp (F m τ dsr).eval ⟨dst,.defer { callee:=.value fo,args:=as,argTypes:=ts },ty,pos,af,none⟩:=Oper.semAt_none _ _
       rw [hsem,aP]
       have hrun:(execOp (ev m τ) ⟨dst,.defer { callee:=.value fo,args:=as,argTypes:=ts },ty,pos,af,none⟩).run Pr w= .ok (.defer { target:=.fn (.func g) y',args:=x'++as.map (ev m τ) }) w:=by
        simp [execOp,resolve,hfr,Deferred.ofValue]
       rw [hrun,Oper.uponIn_defer]
       refine hK _ _ ?_
       obtain ⟨τ',h1,h2⟩:=HY (ds:={ target:=.fn (.func g) y',args:=x'++as.map (ev m τ) }::dsr) (dst:=dst) hf fK
       refine ⟨ρ,_,_,h,n,.refl _,⟨⟨τ',{ target:=.fn (.func g) y',args:=x'++as.map (ev m τ) }::dsr,?_,h2,.cons ?_ hd⟩,hs.hp⟩,e2⟩
       .rw [← h1];rfl
       .show Rd ρ (.call g (fF x (fF vs y))) _
        refine ⟨y',rfl,?_⟩
        simp only [il,Array.toList_append,Array.toList_map,List.append_assoc]
        exact hx.append (hvr.append hy)
    .cases e2
 | some jb=>
  obtain ⟨j,b⟩:=jb
  have e':(Option.rec (λ_ _ _ _ _ _ _=>none) (λt=>λrun rd σ ds h n k=>on (T.get (aB t) σ)
   (V.onGuard (λc=>Bool.rec (k (ep dst aS σ) ds h n) (ye Pr op run σ h n λv h n=>k (ep dst v σ) ds h n) (Bool.rec (dP c) c b)) (k (ep dst aS σ) ds h n))) ((ops[j]?).bind (·.dst)):fG->Option P->T V->List D->T Blk->P->KN β->Option β) run rd σ ds h n k=some r:=e
  cases hj:(ops[j]?).bind (·.dst) with
  | none=>rw [hj] at e';cases e'
  | some t=>
   rw [hj] at e'
   have e':on (T.get (aB t) σ) (V.onGuard (λc=>Bool.rec (k (ep dst aS σ) ds h n) (ye Pr op run σ h n λv h n=>k (ep dst v σ) ds h n) (Bool.rec (dP c) c b)) (k (ep dst aS σ) ds h n))=some r:=e'
   rw [ah] at e'
   obtain ⟨v,hv,e'⟩:=e'
   obtain ⟨hlt,hvr⟩:=hf.get t v hv
   rw [oG] at e'
   have skip:k (ep dst aS σ) ds h n=some r->K ((F m τ dsr).put dst undef) w:=λe=>hK _ _ (Kx.put hf hd ⟨ρ,aS,h,n,.refl _,hs.hp,fK,e⟩)
   rcases e' with ⟨c,rfl,e'⟩ | ⟨l,rfl,e'⟩
   .simp only [Rv] at hvr
    have hw:Region.wanted ⟨dst,op,ty,pos,af,some (j,b)⟩ (yielded ops (F m τ dsr).tmps)=(c == b):=
     dX hj (by have:Nat.blt t m=true:=(by rw [Nat.blt_eq];exact hlt);simp only [ev,this,cond_true];exact hvr) hlt
    unfold Rp
    rw [hw]
    have go:dK op=false\/dK op=true:=by cases dK op <;> simp
    have p8:ye Pr op run σ h n (λv h n=>k (ep dst v σ) ds h n)=some r->dK op=false:=λe=>by cases op <;> first | rfl | cases e
    cases b <;> cases c <;> simp only [dP] at e'
    .exact plain _ (p8 e') e'
    .exact ⟨λf _=>yT rr f,skip e'⟩
    .exact ⟨λf _=>yT rr f,skip e'⟩
    .exact plain _ (p8 e') e'
   .simp only [Rv] at hvr
    obtain ⟨a,ha,_⟩:=hvr
    unfold Rp
    rw [sP hj ha hlt]
    exact ⟨λf _=>yT rr f,skip e'⟩
theorem y5 (hop:CW β Pr m) {ops:Array Oper} {run:fG} (hr:RunOK Pr run) {rd:Option P} {rr:Option Nat} {w0:Base} {r:β} {Q:Exit->Act->World->Prop}:∀ (l:List Oper) {ρ:Ren} {σ:T V} {ds:List D} {h:T Blk} {n:P} {k:KN β} {a:Act} {w:World},
  RdR ρ rd rr->St w0 ρ m σ ds h n a w->AQ Pr ops l run rd σ ds h n k=some r->(∀ a w,KQ w0 ρ m r k a w->Q .normal a w)->wpListIn (Fw rr) 0 Pr ops Q l a w
 | [],ρ,σ,ds,h,n,k,a,w,hrd,hs,e,hQ=>hQ _ _ (.here hs e)
 | o::l,ρ,σ,ds,h,n,k,a,w,hrd,hs,e,hQ=>by
  have e:Ip Pr ops o run rd σ ds h n (λσ ds h n=>AQ Pr ops l run rd σ ds h n k)=some r:=e
  exact KO hop hr hrd hs e λa w q=>by
   obtain ⟨ρ',σ',ds',h',n',hle,hs',e'⟩:=q;exact y5 hop hr l (hrd.mono hle) hs' e' λa w q=>hQ _ _ (q.mono hle)
theorem wZ (hop:CW β Pr m) (id:Nat) (ops:Array Oper):EXok (β:=β) Pr m (λrun rd σ ds h n kn _=>Ir Pr ops false run rd σ ds h n kn) (.region id ops false):=by
 intro run hr rd rr w0 ρ σ ds h n kn kx r a w hrd hs e;exact wpIn_region_list (y5 hop hr ops.toList hrd hs e λa w q=>q)
end
end Go.Lk
namespace Go.Lk
open Go.Eng Go.RowKit
theorem fw {Pr:Program} {f:FuncId} {fc:Func × Code} (h:dG Pr f=some fc):Pr.funcs[f]?=some fc.1/\fc.1.body=some fc.2/\CF Pr f:=by
 unfold dG at h
 split at h
 .rename_i fn hf
  split at h
  .rename_i c hc
   split at h
   .cases h
   .rename_i hn;cases h
    refine ⟨hf,hc,λargs w=>?_⟩;simp [callFunc,Sem.run_bind,hf,hn,hc]
  .cases h
 .cases h
theorem qm:∀ (l:List V) (i:Nat) (σ:T V) (t:Nat),T.get (aB t) (nI l (aB i) σ)=if i<=t/\t<i+l.length then (T.get (aB t) σ).bind λ_=>l[t-i]? else T.get (aB t) σ
 | [],i,σ,t=>by rw [if_neg (by simp only [List.length_nil];omega)];rfl
 | v::l,i,σ,t=>by
  show T.get (aB t) (nI l (aB (i+1)) (T.set v (aB i) σ))=_;rw [qm l (i+1),T.get_set]
  by_cases h:t=i
  .subst h;rw [if_neg (by omega),if_pos rfl,if_pos ⟨Nat.le_refl _,by simp⟩];simp only [Nat.sub_self,List.getElem?_cons_zero];cases T.get (aB t) σ <;> rfl
  .rw [if_neg (λe=>h (eU e))]
   by_cases h2:i+1<=t/\t<i+1+l.length
   .rw [if_pos h2,if_pos ⟨by omega,by simp only [List.length_cons];omega⟩];rw [show t-i=(t-(i+1))+1 by omega];rfl
   .rw [if_neg h2,if_neg (by simp only [List.length_cons];omega)]
theorem BM {ρ:Ren} {l:List V} {xs:List Value} (h:Rvs ρ l xs) {m:Nat} (hm:l.length<=m):Fr ρ m (nI l .z (zh m)) (tK xs):=by
 refine ⟨λt v e=>?_⟩;have e:T.get (aB t) (nI l (aB 0) (zh m))=some v:=e;rw [qm,D8] at e;have hl:=h.length
 by_cases h1:t<l.length
 .rw [if_pos ⟨Nat.zero_le _,by omega⟩,if_pos (by omega)] at e;simp only [Option.bind_some,Nat.sub_zero] at e;obtain ⟨x,hx,hv⟩:=h.get' e;refine ⟨by omega,?_⟩;rw [tK,List.getD_eq_getElem?_getD,hx];exact hv
 .rw [if_neg (by omega)] at e
  split at e
  .rename_i h2;cases e
   refine ⟨h2,?_⟩;rw [tK,List.getD_eq_getElem?_getD,List.getElem?_eq_none (by omega)];exact fK
  .cases e
theorem Ew {args:Array Value} {m:Nat} (h:args.size<=m):({ tmps:=args++Array.replicate (m-args.size) undef,defers:=[] }:Act)=F m (tK args.toList) []:=by
 unfold F
 congr 1
 apply Array.ext_getElem?;intro t;rw [iL,Array.getElem?_append];simp only [tK,List.getD_eq_getElem?_getD,Array.getElem?_toList]
 by_cases h1:t<args.size
 .simp [h1,Nat.lt_of_lt_of_le h1 h]
 .simp only [h1,if_false,Array.getElem?_replicate];rw [Array.getElem?_eq_none (Nat.le_of_not_lt h1)]
  by_cases h2:t<m
  .have:t-args.size<m-args.size:=by omega
   simp [h2,this]
  .have:¬ t-args.size<m-args.size:=by omega
   simp [h2,this]
def Cg (tmps:Array Value):ResultVar->Sem Value
 | .tmp t=>pure (tmps.getD t undef)
 | .cell a t=>do loadVar t (← asAddr (tmps.getD a undef))
theorem Bw (fn:Func) (tmps:Array Value):results fn tmps=(do let vs ← fn.results.mapM (Cg tmps);pure (if h:vs.size=1 then vs[0] else .tuple vs)):=by
 unfold results
 congr 1
section
variable {Pr:Program}
theorem DX {w0:Base} {w:World} {ρ:Ren} {h:T Blk} {n:P} {t:TypeId} {g:Option Nat} {p v:V} {pv:Value} (H:Rh w0 ρ h n w) (hg:fV Pr t=some g) (hp:Rv ρ p pv) (e:l5 g p h=some v):∃ u,((do loadVar t (← asAddr pv)):Sem Value).run Pr w= .ok u w/\Rv ρ v u:=by
 have key:∀ u,Ex Pr (ev 1 (λ_=>pv)) w (.load t (.tmp 0)) 0 u->((do loadVar t (← asAddr pv)):Sem Value).run Pr w= .ok u w:=by
  intro u hx;have h0:=hx none "" #[] none;have hev:ev 1 (λ_=>pv) (.tmp 0)=pv:=rfl;simp only [execOp,hev,Instr.loadAt,Sem.run_bind] at h0;cases pv <;> first | (simp [Instr.sureAddr] at h0;done) | skip
  rename_i a
  cases a with
  | none=>simp [Instr.sureAddr] at h0
  | some a=>
   simp only [Instr.sureAddr,Sem.run_pure,Result.andThen_ok] at h0
   simp only [Sem.run_bind,asAddr,Sem.run_pure,Result.andThen_ok]
   cases hl:(loadVar t a).run Pr w with
   | ok x w'=>rw [hl] at h0;simp only [Result.andThen_ok,Sem.run_pure] at h0;cases h0;rfl
   | halt x w'=>rw [hl] at h0;simp [Result.andThen] at h0
 have hf:Fr ρ 1 (T.put (some p) .z .e) (λ_=>pv):=⟨λt v e=>by
  rw [T.get_put] at e
  split at e
  .rename_i h0;cases e
   have:t=0:=eU h0;exact ⟨by omega,hp⟩
  .simp at e⟩
 obtain ⟨u,hu,hv⟩:=GQ (Pr:=Pr) (ty:=0) H hf (a:=.tmp 0) hg (v:=v) (by
  have h1:aJ (.tmp 0) (T.put (some p) .z .e)=T.get P.z (T.put (some p) .z .e):=rfl;have:aJ (.tmp 0) (T.put (some p) .z .e)=some p:=by rw [h1];exact T.get_put_same _ _ _
  rw [this];exact e)
 exact ⟨u,key u hu,hv⟩
theorem sU {w0:Base} {w:World} {ρ:Ren} {m:Nat} {σ:T V} {τ:Nat->Value} {h:T Blk} {n:P} (H:Rh w0 ρ h n w) (hf:Fr ρ m σ τ):∀ (rs:List ResultVar) (l:List V),qy Pr rs σ h=some l->
  ∃ xs:List Value,(rs.mapM (Cg (mk m τ))).run Pr w= .ok xs w/\Rvs ρ l xs
 | [],l,e=>by
  have e:(some []:Option (List V))=some l:=e;cases e
  exact ⟨[],by simp,by simp only [Rvs]⟩
 | .tmp t::rs,l,e=>by
  have e:(on (T.get (aB t) σ) λv=>on (qy Pr rs σ h) λl=>some (v::l))=some l:=e;simp only [ah] at e;obtain ⟨v,hv,l',hl',e⟩:=e;cases e
  obtain ⟨h1,h2⟩:=hf.get t v hv;obtain ⟨xs,hx,hr⟩:=sU H hf rs l' hl';refine ⟨τ t::xs,?_,by simp only [Rvs];exact ⟨_,_,rfl,h2,hr⟩⟩;have:(mk m τ).getD t undef=τ t:=by rw [lI];have:Nat.blt t m=true:=(by rw [Nat.blt_eq];exact h1);simp [this]
  simp only [List.mapM_cons,Cg,Sem.run_bind,Sem.run_pure,Result.andThen_ok,this,hx]
 | .cell a t::rs,l,e=>by
  have e:(Option.rec (λ_ _=>none) (λg σ h=>on (T.get (aB a) σ) λp=>on (l5 g p h) λv=>on (qy Pr rs σ h) λl=>some (v::l)) (fV Pr t):T V->T Blk->Option (List V)) σ h=some l:=e
  cases hg:fV Pr t with
  | none=>rw [hg] at e;cases e
  | some g=>
   rw [hg] at e
   have e:(on (T.get (aB a) σ) λp=>on (l5 g p h) λv=>on (qy Pr rs σ h) λl=>some (v::l))=some l:=e
   simp only [ah] at e
   obtain ⟨p,hp,v,hv,l',hl',e⟩:=e
   cases e
   obtain ⟨h1,h2⟩:=hf.get a p hp
   have:(mk m τ).getD a undef=τ a:=by rw [lI];have:Nat.blt a m=true:=(by rw [Nat.blt_eq];exact h1);simp [this]
   obtain ⟨u,hu,hur⟩:=DX (Pr:=Pr) H hg h2 hv
   obtain ⟨xs,hx,hr⟩:=sU H hf rs l' hl'
   refine ⟨u::xs,?_,by simp only [Rvs];exact ⟨_,_,rfl,hur,hr⟩⟩
   simp only [Sem.run_bind] at hu
   simp only [List.mapM_cons,Cg,Sem.run_bind,Sem.run_pure,this,hu,Result.andThen_ok,hx]
theorem pV {w0:Base} {w:World} {ρ:Ren} {fn:Func} {m:Nat} {σ:T V} {τ:Nat->Value} {h:T Blk} {n:P} (H:Rh w0 ρ h n w) (hf:Fr ρ m σ τ) {l:List V} (e:qy Pr fn.results.toList σ h=some l) :
  ∃ x,(results fn (mk m τ)).run Pr w= .ok x w/\Rv ρ (wB l) x:=by
 obtain ⟨xs,hx,hr⟩:=sU H hf _ _ e;rw [Bw,Array.mapM_eq_mapM_toList];simp only [Sem.run_bind,Sem.run_map,hx,Result.andThen_ok,Sem.run_pure]
 cases hr':l with
 | nil=>subst hr';simp only [Rvs] at hr;subst hr;exact ⟨_,rfl,by simp only [wB,Rv];exact ⟨#[],rfl,by simp only [Rvs]⟩⟩
 | cons v l'=>
  subst hr'
  have hr2:=hr
  simp only [Rvs] at hr
  obtain ⟨y,ys,rfl,hv,hr⟩:=hr
  cases l' with
  | nil=>simp only [Rvs] at hr;subst hr;exact ⟨y,rfl,hv⟩
  | cons u l'=>
   simp only [Rvs] at hr
   obtain ⟨z,zs,rfl,hu,hr⟩:=hr
   refine ⟨.tuple (y::z::zs).toArray,by simp,?_⟩
   show Rv ρ (.tup (v::u::l')) _
   simp only [Rv]
   exact ⟨_,rfl,by simpa using hr2⟩
abbrev wk (Pr:Program):Prop:=∀ (m:Nat) (c:Code),EXok (β:=jI) Pr m (uh Pr m c) c
theorem ik {run:fG} (hr:RunOK Pr run) {w0:Base} {fn:Func} {m:Nat} {σ:T V} {τ:Nat->Value} {res:jI} {R:Ending->World->Prop}:∀ (ds:List D) (dsr:List Deferred) (ρ:Ren) (h:T Blk) (n:P) (w:World) (ρ0:Ren),(∀ e w,RQ w0 ρ0 res e w->R e w)->
  All2 (Rd ρ) ds dsr->Fr ρ m σ τ->Rh w0 ρ h n w->ρ0.le ρ->wt run ds h n (λh n=>on (qy Pr fn.results.toList σ h) λl=>some (wB l,h,n))=some res->
  LeavesInM Fence.wide 0 Pr fn (mk m τ) R dsr .returning w
 | [],dsr,ρ,h,n,w,ρ0,hR,hd,hf,H,hle,e=>by
  cases hd
  have e:(on (qy Pr fn.results.toList σ h) λl=>some (wB l,h,n))=some res:=e;rw [ah] at e;obtain ⟨l,hl,e⟩:=e;cases e
  obtain ⟨x,hx,hv⟩:=pV (Pr:=Pr) (fn:=fn) H hf hl;exact ⟨x,hx,hR _ _ ⟨x,ρ,rfl,hle,H,hv⟩⟩
 | .call f as::ds,dsr,ρ,h,n,w,ρ0,hR,hd,hf,H,hle,e=>by
  cases hd with
  | cons hd0 hd1=>
   rename_i d dsr
   obtain ⟨cap,ht,hv⟩:=hd0
   have e:(on (run (.dcall f as) h n) λr=>wt run ds r.2.1 r.2.2 (λh n=>on (qy Pr fn.results.toList σ h) λl=>some (wB l,h,n)))=some res:=e
   rw [ah] at e
   obtain ⟨r,h1,e⟩:=e
   obtain ⟨hc,hcall⟩:=hr.dcall f as h n r h1 w0 ρ w (d.args++cap) H hv
   refine ⟨by simp,.inr ⟨(by intro h;cases h),.func f,cap,f,d.args++cap,ht,?_,λ_ _=>trivial,hcall.mono λe' u' w' q=>?_⟩⟩
   .rw [ht];simp only [invoke];exact hc _ _
   .obtain ⟨rfl,x,ρ',rfl,hle',H',_⟩:=q
    show LeavesInM Fence.wide 0 Pr fn (mk m τ) _ dsr (settle .returning) w'
    exact ik hr ds dsr ρ' r.2.1 r.2.2 w' ρ0 hR (All2.mono' hle' hd1) (hf.mono hle') H' (hle.trans hle') e
 | .mark b::ds,dsr,ρ,h,n,w,ρ0,hR,hd,hf,H,hle,e=>by
  cases hd with
  | cons hd0 hd1=>
   rename_i d dsr
   obtain ⟨L,hL,ht⟩:=hd0
   have e:(on (T.get b h) (Blk.onDfr λlive=>Bool.rec none (wt run ds (T.put (some (.dfr false)) b h) n (λh n=>on (qy Pr fn.results.toList σ h) λl=>some (wB l,h,n))) live))=some res:=e
   simp only [ah,AC,aj] at e
   obtain ⟨B,hB,live,rfl,rfl,e⟩:=e
   have hl:=H.live b _ L hB hL
   have hl:w.heap[L.c]?=some (.deferred (some [])):=hl
   have hp:Pt w (w.putObj L.c (.deferred none)) L.c (.deferred none):=⟨(Array.getElem?_eq_some_iff.1 hl).1,rfl⟩
   refine ⟨by simp,.inl ⟨L.c,_,ht,run_takeDeferred hl,?_⟩⟩
   exact ik hr ds dsr ρ _ n _ ρ0 hR hd1 hf (H.turn hB hL hp (by simp [Rb])) hle e
theorem mE {β:Type} [Jn β] (hcode:∀ (m:Nat) (c:Code),EXok (β:=β) Pr m (uh Pr m c) c) {run:fG} (hr:RunOK Pr run) {f:FuncId} {fc:Func × Code} (_:dG Pr f=some fc) {as:List V} {h:T Blk} {n:P} {res:β} {w0:Base} {w:World} {ρ:Ren} {args:Array Value} (H:Rh w0 ρ h n w) (hv:Rvs ρ as args.toList) {k:fG->KN β}
  (e:kP Pr fc.1 fc.2 k run as h n=some res):fc.2.wpIn Fence.wide 0 Pr (PQ w0 ρ fc.1.ntmps res (k run) (CE (k run))) { tmps:=args++Array.replicate (fc.1.ntmps-args.size) undef,defers:=[] } w:=by
 unfold kP at e;rw [aj,bO] at e;obtain ⟨hl,e⟩:=e;have hl:=Nat.le_of_ble_eq_true hl;have hsz:args.size=as.length:=by have:=hv.length;simpa using this
 rw [Ew (by omega)];exact hcode fc.1.ntmps fc.2 run hr none none w0 ρ _ [] h n _ _ res _ w trivial ⟨⟨_,[],rfl,BM hv hl,.nil⟩,H⟩ e
theorem Am (hcode:wk Pr) {run:fG} (hr:RunOK Pr run) {f:FuncId} {fc:Func × Code} (hfc:dG Pr f=some fc) {as:List V} {h:T Blk} {n:P} {res:jI} {w0:Base} {w:World} {ρ:Ren} {args:Array Value} (H:Rh w0 ρ h n w) (hv:Rvs ρ as args.toList)
  (e:kP Pr fc.1 fc.2 (o9 Pr fc.1) run as h n=some res):CallsIn Fence.wide 0 Pr f args w (RQ w0 ρ res):=by
 obtain ⟨h1,h2,_⟩:=fw hfc;refine callsIn_of_wp_marks h1 h2 trivial (wpIn_mono (mE hcode hr hfc H hv e) λx a w' q=>?_)
 have key:KQ w0 ρ fc.1.ntmps res (o9 Pr fc.1 run) a w'->LeavesInM Fence.wide 0 Pr fc.1 a.tmps (RQ w0 ρ res) a.defers .returning w':=by
  rintro ⟨ρ',σ,ds,h',n',hle,⟨⟨τ,dsr,rfl,hf,hd⟩,H'⟩,e'⟩;exact ik hr ds dsr ρ' h' n' w' ρ (λ_ _ q=>q) hd hf H' hle e'
 cases x with
 | normal=>exact key q
 | ret=>exact key q
 | exit i=>obtain ⟨_,_,_,_,_,_,_,e⟩:=q;cases e
 | goto i=>obtain ⟨_,_,_,_,_,_,_,e⟩:=q;cases e
 | panic=>exact q.elim
 | outgrown=>exact q.elim
theorem ze (hcode:∀ (m:Nat) (c:Code),EXok (β:=Unit) Pr m (uh Pr m c) c) {run:fG} (hr:RunOK Pr run) {f:FuncId} {fc:Func × Code} (hfc:dG Pr f=some fc) {as:List V} {h:T Blk} {n:P} {res:jI} {w0:Base} {w:World} {ρ:Ren} {args:Array Value} (H:Rh w0 ρ h n w) (hv:Rvs ρ as args.toList)
  {b:Bool} (e:xA Pr b f run as h n=some res):CallsIn Fence.wide 0 Pr f args w (RQ w0 ρ res):=by
 unfold xA at e;rw [hfc] at e
 replace e:on (kP Pr fc.1 fc.2 (Mv Pr fc.1) run as h n) (λc=>Cand.rec (λr=>on (kP Pr fc.1 fc.2 (LZ Pr (mO b h r) fc.1) run as h n) λ_=>some (mO b h r)) c)=some res:=e
 rw [ah] at e;obtain ⟨⟨r0⟩,_,e⟩:=e
 replace e:on (kP Pr fc.1 fc.2 (LZ Pr (mO b h r0) fc.1) run as h n) (λ_=>some (mO b h r0))=some res:=e
 rw [ah] at e;obtain ⟨u,e,e2⟩:=e;generalize mO b h r0=exp at e e2;cases e2
 obtain ⟨h1,h2,_⟩:=fw hfc;refine callsIn_of_wp_marks h1 h2 trivial (wpIn_mono (mE hcode hr hfc H hv e) λx a w' q=>?_)
 have key:KQ w0 ρ fc.1.ntmps u (LZ Pr res fc.1 run) a w'->LeavesInM Fence.wide 0 Pr fc.1 a.tmps (RQ w0 ρ res) a.defers .returning w':=by
  rintro ⟨ρ',σ,ds,h',n',hle,⟨⟨τ,dsr,rfl,hf,hd⟩,H'⟩,e'⟩
  replace e':on (o9 Pr fc.1 run σ ds h' n') (λr=>Bool.rec none (some ()) (Gx res r))=some u:=e'
  rw [ah] at e';obtain ⟨r,e1,e2⟩:=e';rw [aj] at e2;obtain ⟨q1,q2,q3⟩:=Ai e2.1;refine ik hr ds dsr ρ' h' n' w' ρ (λe w q=>?_) hd hf H' hle e1;obtain ⟨x,ρ1,g1,g2,g3,g4⟩:=q;exact ⟨x,ρ1,g1,g2,by rw [q2];exact g3.sub q3,by rw [q1];exact g4⟩
 cases x with
 | normal=>exact key q
 | ret=>exact key q
 | exit i=>obtain ⟨_,_,_,_,_,_,_,e⟩:=q;cases e
 | goto i=>obtain ⟨_,_,_,_,_,_,_,e⟩:=q;cases e
 | panic=>exact q.elim
 | outgrown=>exact q.elim
theorem yK (hcode:wk Pr) {run:fG} (hr:RunOK Pr run) {f:FuncId} {fc:Func × Code} (hfc:dG Pr f=some fc) {as:List V} {h:T Blk} {n:P} {res:jI} {w0:Base} {w:World} {ρ:Ren} {args:Array Value} (H:Rh w0 ρ h n w) (hv:Rvs ρ as args.toList)
  (e:kP Pr fc.1 fc.2 (λ_=>leave0 Pr fc.1) run as h n=some res) (u:FrameMode):CallsDIn Fence.wide 0 Pr f args u w λe u' w'=>u'=u/\RQ w0 ρ res e w':=by
 obtain ⟨h1,h2,_⟩:=fw hfc;refine callsDIn_of_wp h1 h2 trivial (wpIn_mono (mE hcode hr hfc H hv e) λx a w' q=>?_)
 have key:KQ w0 ρ fc.1.ntmps res (leave0 Pr fc.1) a w'->a.defers=[]/\∃ v,(results fc.1 a.tmps).run Pr w'= .ok v w'/\RQ w0 ρ res (.returned v) w':=by
  rintro ⟨ρ',σ,ds,h',n',hle,⟨⟨τ,dsr,rfl,hf,hd⟩,H'⟩,e'⟩
  cases hd with
  | cons=>cases e'
  | nil=>
   have e:(on (qy Pr fc.1.results.toList σ h') λl=>some (wB l,h',n'))=some res:=e'
   rw [ah] at e
   obtain ⟨l,hl,e⟩:=e
   cases e
   obtain ⟨x,hx,hv⟩:=pV (Pr:=Pr) (fn:=fc.1) H' hf hl
   exact ⟨rfl,x,hx,x,ρ',rfl,hle,H',hv⟩
 cases x with
 | normal=>exact key q
 | ret=>exact key q
 | exit i=>obtain ⟨_,_,_,_,_,_,_,e⟩:=q;cases e
 | goto i=>obtain ⟨_,_,_,_,_,_,_,e⟩:=q;cases e
 | panic=>exact q.elim
 | outgrown=>exact q.elim
theorem vR {ρ:Ren} {m:Nat}:∀ (ps:List Nat) (as:List V) (xs:List Value) (σ:T V) (arr:Array Value),Rvs ρ as xs->arr.size=m->(∀ t v,T.get (aB t) σ=some v->∃ x,arr[t]?=some x/\Rv ρ v x)->
  ((ps.zip xs).foldl (λtmps (t,a)=>tmps.setIfInBounds t a) arr).size=m/\∀ t v,T.get (aB t) (AP ps as σ)=some v->∃ x,((ps.zip xs).foldl (λtmps (t,a)=>tmps.setIfInBounds t a) arr)[t]?=some x/\Rv ρ v x
 | [],as,xs,σ,arr,hv,hs,hf=>⟨hs,hf⟩
 | p::ps,[],xs,σ,arr,hv,hs,hf=>by simp only [Rvs] at hv;subst hv;exact ⟨hs,hf⟩
 | p::ps,v::as,xs,σ,arr,hv,hs,hf=>by
  simp only [Rvs] at hv;obtain ⟨x,r,rfl,hv,hr⟩:=hv;refine vR ps as r (T.set v (aB p) σ) (arr.setIfInBounds p x) hr (by simpa using hs) λt u e=>?_;rw [T.get_set] at e
  by_cases h:aB t=aB p
  .rw [if_pos h] at e;have h:=eU h;subst h
   cases hg:T.get (aB t) σ with
   | none=>rw [hg] at e;cases e
   | some y=>
    rw [hg] at e;cases e
    obtain ⟨z,hz,_⟩:=hf t y hg
    exact ⟨x,by rw [Array.getElem?_setIfInBounds_self,if_pos (Array.getElem?_eq_some_iff.1 hz).1],hv⟩
  .rw [if_neg h] at e;obtain ⟨z,hz,hzv⟩:=hf t u e;exact ⟨z,by rw [Array.getElem?_setIfInBounds_ne (λe=>h (by rw [e])),hz],hzv⟩
theorem yB (hcode:wk Pr) {run:fG} (hr:RunOK Pr run) {l:P} {as:List V} {h:T Blk} {n:P} {res:jI} (e:Bn Pr run l as h n=some res) {w0:Base} {w:World} {ρ:Ren} {args:Array Value} {L:Loc} (H:Rh w0 ρ h n w) (hv:Rvs ρ as args.toList) (hL:ρ l=some L) :
  ∃ r,w.heap[L.c]?=some (.loop r)/\args.size=r.params.size/\RoundIn Fence.wide 0 Pr L.c r.fn ((r.params.zip args).foldl (λtmps (t,a)=>tmps.setIfInBounds t a) r.tmps) r.assign r.body w (RQ w0 ρ res):=by
 unfold Bn at e;simp only [ah,gH] at e;obtain ⟨B,hB,st,p,σ,m,ps,asg,body,d,rfl,e⟩:=e;rw [aj] at e;obtain ⟨hlen,e⟩:=e;obtain ⟨r,hr1,hr2,hr3,hr4,hr5,hr6,hr7,hr8,hr9⟩:=H.live l _ L hB hL;have hsz:args.size=as.length:=by have:=hv.length;simpa using this
 have hps:r.params.size=ps.length:=by rw [← hr4];simp
 refine ⟨r,hr1,?_,?_⟩
 .have:=Nat.eq_of_beq_eq_true hlen;simp only [bO] at this;omega
 have hz:=vR ps as args.toList σ r.tmps hv hr7 hr8
 have hfold:(r.params.zip args).foldl (λtmps (t,a)=>tmps.setIfInBounds t a) r.tmps=(ps.zip args.toList).foldl (λtmps (t,a)=>tmps.setIfInBounds t a) r.tmps:=by
  rw [← Array.foldl_toList,Array.toList_zip,hr4]
 rw [hfold];generalize (ps.zip args.toList).foldl (λtmps (t,a)=>tmps.setIfInBounds t a) r.tmps=arr at hz ⊢;obtain ⟨hz1,hz2⟩:=hz
 have hact:({ tmps:=arr,defers:=[] }:Act)=F m (λt=>arr.getD t undef) []:=by
  unfold F
  congr 1
  apply Array.ext_getElem?;intro t;rw [iL]
  by_cases ht:t<m
  .rw [if_pos ht,Array.getD_eq_getD_getElem?,Array.getElem?_eq_getElem (by omega)];rfl
  .rw [if_neg ht,Array.getElem?_eq_none (by omega)]
 have hfr:Fr ρ m (AP ps as σ) (λt=>arr.getD t undef):=⟨λt v e=>by
  obtain ⟨x,hx,hxv⟩:=hz2 t v e;have:=(Array.getElem?_eq_some_iff.1 hx).1
  exact ⟨by omega,by rw [Array.getD_eq_getD_getElem?,hx];exact hxv⟩⟩
 subst hr5 hr6;refine roundIn_of_wpIn trivial ?_;rw [hact];have hrd:RdR ρ (some l) (some L.c):=⟨L,hL,rfl⟩;refine wpIn_mono (hcode m r.assign run hr (some l) (some L.c) w0 ρ _ [] h n _ _ res _ w hrd ⟨⟨_,[],rfl,hfr,.nil⟩,H⟩ e) λx a w1 q=>?_
 cases x with
 | exit i=>obtain ⟨_,_,_,_,_,_,_,e⟩:=q;cases e
 | goto i=>obtain ⟨_,_,_,_,_,_,_,e⟩:=q;cases e
 | ret=>obtain ⟨_,_,_,_,_,_,_,e⟩:=q;cases e
 | panic=>exact q.elim
 | outgrown=>exact q.elim
 | normal=>
  obtain ⟨ρ1,σ1,ds1,h1,n1,hle1,hs1,e1⟩:=q
  simp only [ah,gH] at e1
  obtain ⟨B1,hB1,st1,pend1,σ0,m0,ps0,a0,b0,d0,rfl,e1⟩:=e1
  cases st1 <;> first | cases e1 | skip
  obtain ⟨r1,q1,q2,q3,q4,q5,q6,q7,q8,q9⟩:=hs1.hp.live l _ L hB1 (hle1 _ _ hL)
  have hp:Pt w1 (w1.putObj L.c (.loop { r1 with state:=.busy })) L.c (.loop { r1 with state:=.busy }):=⟨(Array.getElem?_eq_some_iff.1 q1).1,rfl⟩
  refine ⟨_,run_beginRound q1 q2,?_⟩
  have H2:=hs1.hp.turn hB1 (hle1 _ _ hL) hp (B:=.loop .busy pend1 σ0 m0 ps0 a0 b0 d0) ⟨_,rfl,rfl,q3,q4,q5,q6,q7,q8,q9⟩
  refine wpIn_mono (hcode m r.body run hr (some l) (some L.c) w0 ρ1 σ1 ds1 _ n1 _ _ res _ _ (hrd.mono hle1) ⟨hs1.fr,H2⟩ e1) λx a2 w2 q=>?_
  have fin:∀ (j:Option X),KQ w0 ρ1 m res (λ_ _ h n=>nR l j h n) a2 w2->∃ v w',(Instr.endRound L.c (j.map X.code)).run Pr w2= .ok v w'/\RQ w0 ρ res (.returned v) w':=by
   rintro j ⟨ρ2,σ2,ds2,h2,n2,hle2,hs2,e2⟩;simp only [nR,ah,gH] at e2;obtain ⟨B2,hB2,st2,pend2,σ3,m3,ps3,a3,b3,d3,rfl,e2⟩:=e2;cases e2
   have hL2:=hle2 _ _ (hle1 _ _ hL);obtain ⟨r2,t1,t2,t3,t4,t5,t6,t7,t8,t9⟩:=hs2.hp.live l _ L hB2 hL2;refine ⟨_,_,run_endRound (P:=Pr) (j.map X.code) t1,_,ρ2,rfl,hle1.trans hle2,hs2.hp.turn hB2 hL2 ⟨(Array.getElem?_eq_some_iff.1 t1).1,rfl⟩ ⟨_,rfl,?_,rfl,t4,t5,t6,t7,t8,t9⟩,?_⟩
   .cases j <;> rfl
   .simp only [Rv];cases j <;> rfl
  cases x with
  | normal=>exact fin none q
  | exit i=>exact fin (some (.exit i)) q
  | goto i=>exact fin (some (.goto i)) q
  | ret=>exact fin (some .ret) q
  | panic=>exact q.elim
  | outgrown=>exact q.elim
end
end Go.Lk
namespace Go.Lk
open Go.Eng Go.RowKit
theorem lm {P:Program} {w:World} {l₀:Nat} {r₀:Loop} (h:w.heap[l₀]?=some (.loop r₀)) (fn:FuncId) (tmps:Array Value) (ps:Array Tmp) (assign body:Code) :
  (Instr.enterLoop fn tmps ps assign body (some l₀)).run P w =
   .ok (w.heap.size,[]) (w.alloc (.loop { state:=.ready,pending:=none,fn,tmps,params:=ps,assign,body,defers:=r₀.defers })):=by
 unfold Instr.enterLoop;simp only [Sem.run_bind,run_getLoop h,run_newObj_alloc,Result.andThen,Sem.run_pure]
section
variable {β:Type} [Jn β] [JnOK β] {Pr:Program} {m:Nat}
theorem zf {run:fG} (hr:RunOK Pr run) {go:Operand} {ps:Array Tmp} {asg body:Code} {rd:Option P} {rr:Option Nat} {w0:Base} {w w1:World} {ρ0 ρ:Ren} {σ:T V} {τ:Nat->Value} {ds:List D} {dsr:List Deferred} {h:T Blk} {l d:P} {gv:V} {kn:KN β} {kx:X->KN β} {r:β} {rec:Loop} {D:Loc}
  (hle0:ρ0.le ρ) (hf:Fr ρ m σ τ) (hd:All2 (Rd ρ) ds dsr) (H:Rh w0 ρ h l w) (hal:Al w w1 (.loop rec)) (hrec:rec.state= .ready/\rec.pending=none/\rec.tmps=mk m τ/\rec.params=ps/\rec.assign=asg/\rec.body=body/\ρ d=some D/\rec.defers=D.c)
  (hg:Rv ρ gv (ev m τ go))
  (e:V.onFn (λf a b=>on (dG Pr f) λ_=>on (run (.call f (fF a (.yield l::b))) (T.put (some (.loop .ready none σ m ps.toList asg body d)) l h) (P.succ l)) λr=>Prod.rec (λ_ hn=>Prod.rec (λh n=>
   on (T.get l h) (Blk.onLoop λst pend σ' m' ps' a' b' d'=>rangeX.notBusy st (Option.rec (kn σ ds (T.put (some (.loop .exhausted pend σ' m' ps' a' b' d')) l h) n) (λx=>kx x σ ds (T.put (some (.loop .exhausted pend σ' m' ps' a' b' d')) l h) n) pend))) hn) r) (λ_=>none) gv=some r) :
  ∃ (dd:Deferred) (w₁':World) (f:FuncId) (args:Array Value) (w₂:World),
   (resolve (F m τ dsr).eval (rangeCall go w.heap.size) 0).run Pr w1= .ok dd w₁'/\
   (∀ f',Target.leads Pr w₁' dd.target dd.args=some f'->(Fw rr).fn f')/\
   (invoke dd.target dd.args).run Pr w₁'= .ok (.enter f args) w₂/\
   ((Fw rr).depth.isSome=true->1<=0)/\
   CallsIn (Fw rr) (0-1) Pr f args w₂ (rangePost (Fw rr) 0 Pr w.heap.size (PQ w0 ρ0 m r kn kx) (F m τ dsr)):=by
 have _:True:=(λ(_:JnOK β)=>trivial) inferInstance;obtain ⟨h1,h2,h3,h4,h5,h6,h7,h8⟩:=hrec;rw [iq] at e
 rcases e with ⟨f,a,b,rfl,e⟩ | ⟨_,_,e⟩
 case inr=>cases e
 simp only [Rv] at hg;obtain ⟨a',b',hg,ha,hb⟩:=hg
 have hfree:ρ l=none:=by
  cases hn:ρ l with
  | none=>rfl
  | some L=>have:=(H.new l L hn).2.2;omega
 have H1:Rh w0 (ρ.put l ⟨w.heap.size,0,0,0⟩) (T.put (some (.loop .ready none σ m ps.toList asg body d)) l h) l.succ w1:=
  H.grow hal (.inr rfl) hfree (by rw [P.num_succ];omega) (by rw [P.num_succ];omega) rfl
   ⟨rec,rfl,h1,h2,by rw [h4],h5,h6,by rw [h3];simp [mk],λt v e=>by
    obtain ⟨q1,q2⟩:=hf.get t v e
    exact ⟨τ t,by rw [h3,iL,if_pos q1],q2.mono (Ren.le_put hfree)⟩,D,Ren.le_put hfree _ _ h7,h8⟩
 have hle1:=Ren.le_put (L:=⟨w.heap.size,0,0,0⟩) hfree;rw [ah] at e;obtain ⟨fc,hfc,e⟩:=e;rw [ah] at e;obtain ⟨⟨v,h',n'⟩,e1,e2⟩:=e
 have hargs:Rvs (ρ.put l ⟨w.heap.size,0,0,0⟩) (fF a (.yield l::b)) (a'++#[Value.func (.yield w.heap.size) #[] #[]]++b').toList:=by
  rw [il];simp only [Array.toList_append,List.append_assoc];refine (ha.mono hle1).append ?_;show Rvs _ (.yield l::b) (.func (.yield w.heap.size) #[] #[]::b'.toList);simp only [Rvs,Rv];exact ⟨_,_,rfl,⟨_,Ren.put_same,rfl⟩,hb.mono hle1⟩
 rcases hr.call f _ _ _ _ e1 w0 _ w1 _ H1 hargs with ⟨hcf,hcall⟩ | hx
 case inr=>rw [hx.1] at hfc;cases hfc
 refine ⟨{ target:=.fn (.func f) b',args:=a'++#[.func (.yield w.heap.size) #[] #[]] },w1,f,_,w1,?_,λ_ _=>yT rr _,?_,mZ rr,(mJ (hcall.mono ?_))⟩
 .rw [aP];have hc:ev m τ (.const (.func (.yield w.heap.size) #[] #[]))= .func (.yield w.heap.size) #[] #[]:=rfl;simp [resolve,rangeCall,hg,Deferred.ofValue,hc]
 .simp only [invoke];exact hcf _ _
 .rintro e' w3 ⟨x,ρ',rfl,hle2,H3,_⟩;simp only [ah,gH] at e2;obtain ⟨B,hB,st,pend,σ',m',ps',aa,bb,d',rfl,e2⟩:=e2;have hL:=hle2 _ _ (Ren.put_same (ρ:=ρ) (b:=l) (L:=⟨w.heap.size,0,0,0⟩));obtain ⟨r3,t1,t2,t3,t4,t5,t6,t7,t8,t9⟩:=H3.live l _ _ hB hL
  have hnb:st≠.busy/\(Option.rec (kn σ ds (T.put (some (.loop .exhausted pend σ' m' ps' aa bb d')) l h') n') (λx=>kx x σ ds (T.put (some (.loop .exhausted pend σ' m' ps' aa bb d')) l h') n') pend:Option β)=some r:=by
   cases st <;> first | exact ⟨by simp,e2⟩ | cases e2
  obtain ⟨hnb,e2⟩:=hnb;have H4:=H3.turn hB hL (w':=w3.putObj w.heap.size (.loop { r3 with state:=.exhausted })) ⟨(Array.getElem?_eq_some_iff.1 t1).1,rfl⟩ (B:=.loop .exhausted pend σ' m' ps' aa bb d') ⟨_,rfl,rfl,t3,t4,t5,t6,t7,t8,t9⟩;have hle:=hle1.trans hle2;have hst:St w0 ρ' m σ ds (T.put (some (.loop .exhausted pend σ' m' ps' aa bb d')) l h') n' (F m τ dsr) (w3.putObj w.heap.size (.loop { r3 with state:=.exhausted })):=⟨⟨τ,dsr,rfl,hf.mono hle,All2.mono' hle hd⟩,H4⟩;have hE:=run_endLoop (P:=Pr) t1 (by rw [t2];exact hnb);generalize w3.putObj w.heap.size (.loop { r3 with state:=.exhausted })=w4 at hE hst;rw [t3] at hE;refine ⟨_,w4,hE,?_⟩
  cases pend with
  | none=>exact ⟨ρ',_,_,_,_,hle0.trans hle,hst,e2⟩
  | some x=>
   cases x with
   | exit i=>exact wpIn_exit ⟨ρ',_,_,_,_,hle0.trans hle,hst,e2⟩
   | goto i=>exact wpIn_goto ⟨ρ',_,_,_,_,hle0.trans hle,hst,e2⟩
   | ret=>exact wpIn_ret ⟨ρ',_,_,_,_,hle0.trans hle,hst,e2⟩
theorem pW (g:Operand) (ps:Array Tmp) (asg body:Code):EXok (β:=β) Pr m (rangeX Pr m g ps.toList asg body) (.rangeFunc g ps asg body):=by
 intro run hr rd rr w0 ρ σ ds h n kn kx r a w hrd hs e;obtain ⟨⟨τ,dsr,rfl,hf,hd⟩,H⟩:=hs;unfold rangeX at e;rw [ah] at e;obtain ⟨gv,hgv,e⟩:=e;have hg:=av hf hgv;refine wpIn_rangeFunc λfn _=>?_
 have hfree:ρ n=none:=by
  cases hn:ρ n with
  | none=>rfl
  | some L=>have:=(H.new n L hn).2.2;omega
 cases rd with
 | none=>
  cases rr with
  | some _=>exact hrd.elim
  | none=>
   have hal:Al w (w.alloc (.deferred (some []))) (.deferred (some [])):=⟨rfl⟩
   have H1:Rh w0 (ρ.put n ⟨w.heap.size,0,0,0⟩) (T.put (some (.dfr true)) n h) n.succ (w.alloc (.deferred (some []))):=
    H.grow hal (.inr rfl) hfree (by rw [P.num_succ];omega) (by rw [P.num_succ];omega) rfl (by simp [Rb])
   have hle1:=Ren.le_put (L:=⟨w.heap.size,0,0,0⟩) hfree
   have hd1:All2 (Rd (ρ.put n ⟨w.heap.size,0,0,0⟩)) (.mark n::ds) ({ target:=.collected w.heap.size,args:=#[] }::dsr):=.cons ⟨_,Ren.put_same,rfl⟩ (All2.mono' hle1 hd)
   obtain ⟨dd,w1',f,args,w2,q⟩:=zf (rr:=none) (rd:=none) hr (go:=g) (ps:=ps) (asg:=asg) (body:=body) (w1:=(w.alloc (.deferred (some []))).alloc (.loop { state:=.ready,pending:=none,fn,tmps:=mk m τ,params:=ps,assign:=asg,body,defers:=w.heap.size })) hle1 (hf.mono hle1) hd1 H1 ⟨rfl⟩ ⟨rfl,rfl,rfl,rfl,rfl,rfl,Ren.put_same,rfl⟩ (hg.mono hle1) e
   rw [World.size_alloc] at q
   exact ⟨w.heap.size+1,[{ target:=.collected w.heap.size,args:=#[] }],_,dd,w1',f,args,w2,run_enterLoop_outer fn _ _ _ _,q⟩
 | some l=>
  cases rr with
  | none=>exact hrd.elim
  | some l0=>
   obtain ⟨L,hL,rfl⟩:=hrd
   have e:on (T.get l h) (Blk.onLoop λ_ _ _ _ _ _ _ d=>_)=some r:=e
   simp only [ah,gH] at e
   obtain ⟨B,hB,st,pend,σ0,m0,ps0,a0,b0,d,rfl,e⟩:=e
   obtain ⟨r0,t1,t2,t3,t4,t5,t6,t7,t8,D,t9,t10⟩:=H.live l _ L hB hL
   obtain ⟨dd,w1',f,args,w2,q⟩:=zf (rr:=some L.c) (rd:=some l) hr (go:=g) (ps:=ps) (asg:=asg) (body:=body) (w1:=w.alloc (.loop { state:=.ready,pending:=none,fn,tmps:=mk m τ,params:=ps,assign:=asg,body,defers:=r0.defers })) (.refl _) hf hd H ⟨rfl⟩ ⟨rfl,rfl,rfl,rfl,rfl,rfl,t9,t10⟩ hg e
   exact ⟨w.heap.size,[],_,dd,w1',f,args,w2,lm t1 fn _ _ _ _,q⟩
end
section
variable {w0:Base} {w w':World} {ρ:Ren} {h:T Blk} {n:P}
theorem Rh.ext (H:Rh w0 ρ h n w) (x:Ext w w'):Rh w0 ρ h n w':=by
 refine ⟨H.old.trans (x.mono H.old.size),λc o' hk=>?_,H.safe,λb M hb=>?_,λb B' M hb hM=>?_,H.apart⟩
 .have h1:=H.kept c o' hk;rw [x.block c (Array.getElem?_eq_some_iff.1 h1).1];exact h1
 .obtain ⟨a1,a2,a3⟩:=H.new b M hb;exact ⟨a1,Nat.lt_of_lt_of_le a2 x.size,a3⟩
 .rw [x.block _ (H.new b M hM).2.1];exact H.live b B' M hb hM
end
section
variable {Pr:Program}
def QL (Pr:Program) (f:FuncId) (k:Nat):Prop:=CF Pr f/\∀ (args:Array Value) w,args.size=k->CallsDIn Fence.wide 0 Pr f args .returning w λe u' w'=>u'= .returning/\e= .returned (.tuple #[])/\Ext w w'
structure HookOK (Pr:Program) (hk:qg):Prop where
 fn:∀ f g,hk f=some (.fn g)->∀ as h n res,g as h n=some res->∀ w0 ρ w args,Rh w0 ρ h n w->Rvs ρ as args.toList->o7 Pr f args w (RQ w0 ρ res)
 pf:∀ f g,hk f=some (.pf g)->∀ as h n res,g as h n=some res->∀ w0 ρ w args,Rh w0 ρ h n w->Rvs ρ as args.toList->o7 Pr f args w (RQ w0 ρ res)
 dn:∀ f k,hk f=some (.dn k)->QL Pr f k
def P9 (Pr:Program):Prop:=∀ f fn,Pr.funcs[f]?=some fn->∀ as h n res,QK fn.name as h n=some res->dG Pr f=none->∀ w0 ρ w args,Rh w0 ρ h n w->Rvs ρ as args.toList->o7 Pr f args w (RQ w0 ρ res)
theorem uG {hk:qg} (hhk:HookOK Pr hk) (hcode:wk Pr) (hcodeU:∀ (m:Nat) (c:Code),EXok (β:=Unit) Pr m (uh Pr m c) c) (hext:P9 Pr):∀ d,RunOK Pr (ul Pr hk d)
 | 0=>⟨λf as h n res e=>(by cases e),λf as h n res e=>(by cases e),λl as h n res e=>(by cases e)⟩
 | d+1=>by
  have ih:=uG hhk hcode hcodeU hext d;refine ⟨λf as h n res e w0 ρ w args H hv=>?_,λf as h n res e w0 ρ w args H hv=>?_,λl as h n res e w0 ρ w args L H hv hL=>yB hcode ih e H hv hL⟩
  .have e:GD Pr hk f (ul Pr hk d) as h n=some res:=e
   have hB:yJ Pr f (ul Pr hk d) as h n=some res->o7 Pr f args w (RQ w0 ρ res):=λe=>by
    unfold yJ at e
    cases hfc:dG Pr f with
    | some fc=>
     rw [hfc] at e
     exact .inl ⟨(fw hfc).2.2,Am hcode ih hfc H hv e⟩
    | none=>
     rw [hfc] at e
     cases hf:Pr.funcs[f]? with
     | none=>rw [hf] at e;cases e
     | some fn=>rw [hf] at e;exact hext f fn hf as h n res e hfc w0 ρ w args H hv
   unfold GD at e
   cases hkf:hk f with
   | some g=>
    rw [hkf] at e
    cases g with
    | fn g=>exact hhk.fn f g hkf as h n res e w0 ρ w args H hv
    | nd b=>
     have e:xA Pr b f (ul Pr hk d) as h n=some res:=e
     cases hfc:dG Pr f with
     | none=>unfold xA at e;rw [hfc] at e;cases e
     | some fc=>exact .inl ⟨(fw hfc).2.2,ze hcodeU ih hfc H hv e⟩
    | dn k=>cases e
    | pf g=>
     have e:(Option.rec (yJ Pr f (ul Pr hk d) as h n) some (g as h n):Option jI)=some res:=e
     cases hg:g as h n with
     | none=>rw [hg] at e;exact hB e
     | some r=>rw [hg] at e;cases e;exact hhk.pf f g hkf as h n _ hg w0 ρ w args H hv
   | none=>
    rw [hkf] at e
    exact hB e
  .have e:Ap Pr hk f (ul Pr hk d) as h n=some res:=e
   have hB:pA Pr f (ul Pr hk d) as h n=some res->CF Pr f/\CallsDIn Fence.wide 0 Pr f args .returning w λe u' w'=>u'= .returning/\RQ w0 ρ res e w':=λe=>by
    unfold pA at e
    cases hfc:dG Pr f with
    | some fc=>
     rw [hfc] at e
     exact ⟨(fw hfc).2.2,yK hcode ih hfc H hv e .returning⟩
    | none=>rw [hfc] at e;cases e
   unfold Ap at e
   cases hkf:hk f with
   | none=>rw [hkf] at e;exact hB e
   | some g=>
    rw [hkf] at e
    cases g with
    | fn g=>exact hB e
    | nd _=>exact hB e
    | pf g=>exact hB e
    | dn k=>
     have e:(Bool.rec none (some (.tup [],h,n)) (Nat.beq (bR as) k):Option jI)=some res:=e
     rw [aj,bO] at e
     obtain ⟨hk',e⟩:=e
     cases e
     obtain ⟨hc,hd⟩:=hhk.dn f k hkf
     have hl:=hv.length
     have:=Nat.eq_of_beq_eq_true hk'
     refine ⟨hc,(hd args w (by rw [← this,← hl,Array.length_toList])).mono λe u' w' ⟨h1,h2,h3⟩=>⟨h1,.tuple #[],ρ,h2,.refl _,H.ext h3,?_⟩⟩
     simp only [Rv]
     exact ⟨#[],rfl,by simp only [Rvs]⟩
end
end Go.Lk
