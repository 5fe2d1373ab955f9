/- Steps that panic: a call that gives up, in a region that draws or not. Over any program. -/
import Derived.Test.YtljfgmedbjlkaaaGreatV3
import Derived.Defers
import Derived.Recover
import Derived.RecoverIn
import Derived.RangeFuncRecord
import Derived.Maps.RangeWalk
import Derived.Maps.OwnSet
import Derived.StringKeys
import Derived.DeepKeys4
import Derived.Test.YtljfgmedbjlkaaaGreatVA
namespace Go.Eng
open Go.RowKit
variable {rr:Option Nat}
section
variable {P:Program} {ops:Array Oper} {Q:Exit->Act->World->Prop} {S:World->Prop} {L qs:List Nat} {s:Sched} {n:Nat} {σ:Nat->Value} {ds:List Deferred} {w:World} {op:Op} {ty:TypeId} {pos:String} {af:Array Edge} {d:Nat} {v:Value} {rest:List Oper} {y:Option Nat}
end
theorem Kt {n:Nat} {args:List Value} (hl:args.length<=n):args.toArray++Array.replicate (n-args.toArray.size) undef=mk n (tK args):=by
 apply Array.ext_getElem?;intro t;rw [iL,Array.getElem?_append];simp only [List.size_toArray,List.getElem?_toArray,tK,List.getD_eq_getElem?_getD]
 by_cases h1:t<args.length
 .simp [h1,Nat.lt_of_lt_of_le h1 hl]
 .simp only [h1,if_false,Array.getElem?_replicate]
  by_cases h2:t<n
  .have:t-args.length<n-args.length:=by omega
   simp [h2,this,List.getElem?_eq_none (Nat.le_of_not_lt h1)]
  .have:¬ t-args.length<n-args.length:=by omega
   simp [h2,this]
inductive Rec:FrameMode->Value->FrameMode->Prop
 | idle:Rec .returning .nilIface .returning
 | one (t:TypeId) (v:Value) (r:List PanicEntry):Rec (.panicking ({ v:=.iface t v,recovered:=false }::r)) (.iface t v) (.panicking ({ v:=.iface t v,recovered:=true }::r))
section
variable {P:Program} {ops:Array Oper} {Q:Exit->Act->List Frame->World->Prop} {rest:List Nat} {a:Act} {cs cs':List Frame} {w:World} {i:Nat} {o:Oper} {v:Value}
end
section
variable {P:Program} {ops:Array Oper} {Q:Exit->Act->World->Prop} {n:Nat} {σ:Nat->Value} {ds:List Deferred} {w:World} {op:Op} {ty:TypeId} {pos:String} {af:Array Edge} {rest:List Oper} {dd:Deferred}
end
section
variable {P:Program} {ops:Array Oper} {Q:Exit->Act->List Frame->World->Prop} {rest:List Nat} {a:Act} {cs cs':List Frame} {w:World} {i m:Nat} {o:Oper} {v:Value}
end
end Go.Eng
namespace Go.Eng
open Go.RowKit
variable {rr:Option Nat}
def cR (b:Nat) (o:Obj):Ch:=⟨λz=>z=b,λh=>h[b]?=some o,λhs hk=>by rw [hk b rfl (Array.getElem?_eq_some_iff.1 hs).1];exact hs⟩
def S8 (L:List Ch):Prop:=L.Pairwise λc d=>∀ b,c.foot b->¬ d.foot b
def cL (L:List Ch):Ch:=⟨ry L,λh=>(∀ c ∈ L,c.says h)/\S8 L,λhs hk=>⟨λc hc=>c.keep (hs.1 c hc) λb hb=>hk b ⟨c,hc,hb⟩,hs.2⟩⟩
section
variable {S T:Nat->Prop} {w0 w w':World} {L M R:List Ch} {c d:Ch}
theorem Hp.unL (H:Hp S w0 w (cL M::R)):Hp S w0 w (M++R):=by
 have h0:=H.says _ (List.mem_cons_self ..);have ho:=H.own _ (List.mem_cons_self ..);obtain ⟨ha,hb⟩:=List.pairwise_cons.1 H.apart;refine ⟨H.fr,λx hx=>?_,λx hx b hb'=>?_,List.pairwise_append.2 ⟨h0.2,hb,λx hx y hy b hxb=>ha y hy b ⟨x,hx,hxb⟩⟩⟩
 .rcases List.mem_append.1 hx with h | h
  .exact h0.1 x h
  .exact H.says x (List.mem_cons_of_mem _ h)
 .rcases List.mem_append.1 hx with h | h
  .exact ho b ⟨x,h,hb'⟩
  .exact H.own x (List.mem_cons_of_mem _ h) b hb'
theorem Hp.mkL (H:Hp S w0 w (M++R)):Hp S w0 w (cL M::R):=by
 obtain ⟨h1,h2,h3⟩:=List.pairwise_append.1 H.apart;refine ⟨H.fr,λx hx=>?_,λx hx b hb=>?_,List.pairwise_cons.2 ⟨λx hx b ⟨y,hy,hyb⟩=>h3 y hy x hx b hyb,h2⟩⟩
 .rcases List.mem_cons.1 hx with rfl | h
  .exact ⟨λc hc=>H.says c (List.mem_append_left _ hc),h1⟩
  .exact H.says x (List.mem_append_right _ h)
 .rcases List.mem_cons.1 hx with rfl | h
  .obtain ⟨y,hy,hyb⟩:=hb;exact H.own y (List.mem_append_left _ hy) b hyb
  .exact H.own x (List.mem_append_right _ h) b hb
theorem Hp.call1 (H:Hp S w0 w (c::R)) (K:Hp c.foot w w' [d]):Hp S w0 w' (d::R):=H.call 0 rfl K
theorem Hp.here (H:Hp S w0 w (c::R)):Hp c.foot w w [c]:=
 ⟨Mod.refl _ _,λx hx=>by rw [List.mem_singleton] at hx;subst hx;exact H.says _ (List.mem_cons_self ..),λx hx b hb=>by
  rw [List.mem_singleton] at hx;subst hx;exact ⟨(H.own _ (List.mem_cons_self ..) b hb).1,.inl hb⟩,List.pairwise_singleton _ _⟩
theorem Hp.raw {o:Obj} (H:Hp S w0 w L) (h:Al w w' o):Hp S w0 w' (cR w.heap.size o::L):=by
 refine Hp.app' H (M:=[cR w.heap.size o]) ⟨h.ext.mod _,λc hc=>?_,λc hc b hb=>?_,List.pairwise_singleton _ _⟩
 .rw [List.mem_singleton] at hc;subst hc;exact h.new
 .rw [List.mem_singleton] at hc;subst hc;have hb:b=w.heap.size:=hb;subst hb;exact ⟨by rw [h.size];omega,.inr (Nat.le_refl _)⟩
theorem Hp.rput {b:Nat} {o o':Obj} (H:Hp S w0 w L) (i:Nat) (hi:L[i]?=some (cR b o)):Hp S w0 (w.putObj b o') (L.set i (cR b o')):=by
 have hb:w.heap[b]?=some o:=H.at i hi;have hlt:=(Array.getElem?_eq_some_iff.1 hb).1;have hp:Pt w (w.putObj b o') b o':=⟨hlt,rfl⟩;exact H.upd i hi (S':=λz=>z=b) ((Mod.refl _ w).pt hp (.inl rfl)) (λ_ h=>h) hp.new λz hz=>⟨by rw [hp.size];exact H.lt i hi hz,.inl hz⟩
end
def BR (F:Fence) (m:Nat) (P:Program) (l:Nat) (args:Array Value) (W:World) (R:Ending->World->Prop):Prop:=
 ∃ fn tmps assign body,(Instr.yield l args).run P W= .ok (.round l fn tmps assign body) W/\RoundIn F m P l fn tmps assign body W R
def Rt (P:Program) (l:Nat) (vs:Array Value) (c:Ch) (w:World) (Y N:Ch->Prop):Prop:=
 BR Fence.wide 0 P l vs w λe w'=>∃ c',Hp c.foot w w' [c']/\((e= .returned (.bool true)/\Y c')\/(e= .returned (.bool false)/\N c'))
def Iw (P:Program) (f:FuncId) (lb:List Value) (N:Nat) (enc:Nat->Array Value) (D:(Nat->Prop)->World->Prop):Prop:=
 ∀ (l:Nat) (c:Ch) (W:World) (I J:Nat->Ch->Prop),D c.foot W->Hp c.foot W W [c]->I 0 c->
  (∀ k c1 W1,k<N->I k c1->Hp c.foot W W1 [c1]->Rt P l (enc k) c1 W1 (I (k+1)) (J k))->
  Calls P f (.func (.yield l) #[] #[]::lb).toArray W λe W'=>(∃ v,e= .returned v)/\∃ c',Hp c.foot W W' [c']/\(I N c'\/∃ k,k<N/\J k c')
def BP (I:Nat->Ch->Prop) (J:Code->Nat->Ch->Prop) (k:Nat) (c:Ch) (W:World):Exit->Act->World->Prop
 | .normal,_,w'=>∃ c',Hp c.foot W w' [c']/\I (k+1) c'
 | .ret,_,w'=>∃ c',Hp c.foot W w' [c']/\J .ret k c'
 | .exit id,_,w'=>∃ c',Hp c.foot W w' [c']/\J (.exit id) k c'
 | .goto t,_,w'=>∃ c',Hp c.foot W w' [c']/\J (.goto t) k c'
 | _,_,_=>False
abbrev mark (D:Nat):Deferred:={ target:=.collected D,args:=#[] }
abbrev dfr:Obj:=.deferred (some [])
def eP (fn:FuncId) (n:Nat) (σ:Nat->Value) (ps:Array Tmp) (assign body:Code) (d:Nat) (st:LoopState) (pe:Option Code):Obj:=.loop { state:=st,pending:=pe,fn,tmps:=mk n σ,params:=ps,assign,body,defers:=d }
theorem RW {n:Nat} {σ:Nat->Value} {p:Nat} {v:Value}:((#[p]:Array Tmp).zip #[v]).foldl (λt (p,v)=>t.setIfInBounds p v) (mk n σ)=mk n (gT σ p v):=by simp [BI]
theorem O3 {n:Nat} {σ:Nat->Value} {p q:Nat} {v u:Value}:((#[p,q]:Array Tmp).zip #[v,u]).foldl (λt (p,v)=>t.setIfInBounds p v) (mk n σ)=mk n (gT (gT σ p v) q u):=by simp [BI]
section
variable {P:Program} {Q:Exit->Act->World->Prop} {n:Nat} {σ:Nat->Value} {ds:List Deferred} {w w0:World} {go:Operand} {ps:Array Tmp} {assign body:Code} {gf:FuncId} {lb:List Value} {N:Nat} {enc:Nat->Array Value} {D:(Nat->Prop)->World->Prop} {S:Nat->Prop} {c:Ch} {R:List Ch} {I:Nat->Ch->Prop} {J:Code->Nat->Ch->Prop} {σ':Nat->Nat->Value}
abbrev z8 (P:Program) (n:Nat) (w:World) (assign body:Code) (N:Nat) (c:Ch) (I:Nat->Ch->Prop) (J:Code->Nat->Ch->Prop) (σ':Nat->Nat->Value):Prop:=
 ∀ l k c1 W1,k<N->I k c1->Hp c.foot w W1 [c1]->w.heap.size<=l->(∃ r,W1.heap[l]?=some (.loop r))->¬ c1.foot l->
  ∀ Q1:Exit->Act->World->Prop,
   (∀ a1 w1 c2,Hp c1.foot W1 w1 [c2]->(∀ w2,Hp c.foot w w2 [c2]->(∃ r,w2.heap[l]?=some (.loop r))->¬ c2.foot l->body.wq (some l) P (BP I J k c2 w2) a1 w2)->Q1 .normal a1 w1)->
   assign.wq (some l) P Q1 (F n (σ' k) []) W1
theorem H7 {fn:FuncId} {d l k:Nat} {c1:Ch} {W:World} {M:List Ch} (hσ:(ps.zip (enc k)).foldl (λt (p,v)=>t.setIfInBounds p v) (mk n σ)=mk n (σ' k)) (hps:(enc k).size=ps.size)
  (hlw:w.heap.size<=l) (hk:k<N) (hi:I k c1) (G:Hp c.foot w W (cR l (eP fn n σ ps assign body d .ready none)::c1::M)) (round:z8 P n w assign body N c I J σ') :
  Rt P l (enc k) (cL (cR l (eP fn n σ ps assign body d .ready none)::c1::M)) W (λx=>∃ c',x=cL (cR l (eP fn n σ ps assign body d .ready none)::c'::M)/\I (k+1) c') (λx=>∃ j c',x=cL (cR l (eP fn n σ ps assign body d .done (some j))::c'::M)/\J j k c'):=by
 have hl:W.heap[l]?=some (.loop { state:=.ready,pending:=none,fn,tmps:=mk n σ,params:=ps,assign,body,defers:=d }):=G.at 0 rfl;have hy:=run_yield (P:=P) (args:=enc k) hl hps
 have G':Hp (cL (cR l (eP fn n σ ps assign body d .ready none)::c1::M)).foot W W (cR l (eP fn n σ ps assign body d .ready none)::c1::M):=by
  have h:=(Hp.mkL (R:=[]) (by rw [List.append_nil];exact G)).here.unL;rwa [List.append_nil] at h
 refine ⟨fn,_,assign,body,hy,roundIn_of_wpIn trivial ?_⟩;have e0:({ tmps:=(ps.zip (enc k)).foldl (λt (p,v)=>t.setIfInBounds p v) (mk n σ),defers:=[] }:Act)=F n (σ' k) []:=by rw [hσ];rfl
 rw [show (({ tmps:=_,defers:=[] }:Act))=F n (σ' k) [] from e0];have hne:¬ c1.foot l:=G.ne 0 1 rfl rfl (by decide) l rfl;refine round l k c1 W hk hi (G.pick [1] (by decide)) hlw ⟨_,hl⟩ hne _ ?_;intro a1 w1 c2 K hbody;have G3:Hp c.foot w w1 (cR l (eP fn n σ ps assign body d .ready none)::c2::M):=G.call 1 rfl K;have G3':Hp (cL (cR l (eP fn n σ ps assign body d .ready none)::c1::M)).foot W w1 (cR l (eP fn n σ ps assign body d .ready none)::c2::M):=G'.call 1 rfl K;have hl1:w1.heap[l]?=some (.loop _):=G3.at 0 rfl;refine ⟨_,run_beginRound hl1 rfl,?_⟩;have G4:=G3.rput 0 rfl (o':=eP fn n σ ps assign body d .busy none);have G4':=G3'.rput 0 rfl (o':=eP fn n σ ps assign body d .busy none);generalize hw2:w1.putObj l (eP fn n σ ps assign body d .busy none)=w2 at G4 G4';have hw2':w1.putObj l (.loop { state:=.busy,pending:=none,fn,tmps:=mk n σ,params:=ps,assign,body,defers:=d })=w2:=hw2;show body.wpIn _ _ _ _ _ (w1.putObj l (.loop { state:=.busy,pending:=none,fn,tmps:=mk n σ,params:=ps,assign,body,defers:=d }));rw [hw2'];have hne2:¬ c2.foot l:=G4.ne 0 1 rfl rfl (by decide) l rfl;refine wpIn_mono (hbody w2 (G4.pick [1] (by decide)) ⟨_,G4.at 0 rfl⟩ hne2) λe a3 w3 hp=>?_
 have fin:∀ (jump:Option Code) (c3:Ch),Hp c2.foot w2 w3 [c3]->∃ w4,(Instr.endRound l jump).run P w3= .ok (.bool jump.isNone) w4/\Hp (cL (cR l (eP fn n σ ps assign body d .ready none)::c1::M)).foot W w4 [cL (cR l (eP fn n σ ps assign body d (if jump.isNone then .ready else .done) jump)::c3::M)]:=λjump c3 K3=>by
  have G5:Hp (cL (cR l (eP fn n σ ps assign body d .ready none)::c1::M)).foot W w3 (cR l (eP fn n σ ps assign body d .busy none)::c3::M):=G4'.call 1 rfl K3;have hl3:w3.heap[l]?=some (.loop _):=G5.at 0 rfl;refine ⟨_,run_endRound (P:=P) jump hl3,?_⟩;have G6:=G5.rput 0 rfl (o':=eP fn n σ ps assign body d (if jump.isNone then .ready else .done) jump);exact Hp.mkL (R:=[]) (by rw [List.append_nil];exact G6)
 cases e with
 | normal=>
  obtain ⟨c3,K3,hI⟩:=hp
  obtain ⟨w4,h1,h2⟩:=fin none c3 K3
  exact ⟨_,w4,h1,_,h2,.inl ⟨rfl,c3,rfl,hI⟩⟩
 | ret=>
  obtain ⟨c3,K3,hI⟩:=hp
  obtain ⟨w4,h1,h2⟩:=fin (some .ret) c3 K3
  exact ⟨_,w4,h1,_,h2,.inr ⟨rfl,_,c3,rfl,hI⟩⟩
 | exit id=>
  obtain ⟨c3,K3,hI⟩:=hp
  obtain ⟨w4,h1,h2⟩:=fin (some (.exit id)) c3 K3
  exact ⟨_,w4,h1,_,h2,.inr ⟨rfl,_,c3,rfl,hI⟩⟩
 | goto t=>
  obtain ⟨c3,K3,hI⟩:=hp
  obtain ⟨w4,h1,h2⟩:=fin (some (.goto t)) c3 K3
  exact ⟨_,w4,h1,_,h2,.inr ⟨rfl,_,c3,rfl,hI⟩⟩
 | panic ch=>exact hp.elim
 | outgrown=>exact hp.elim
theorem O5 (hg:ev n σ go= .func (.func gf) #[] lb.toArray) (hcf:CF P gf) (it:Iw P gf lb N enc D) (hps:∀ k,(enc k).size=ps.size) (hσ:∀ k,(ps.zip (enc k)).foldl (λt (p,v)=>t.setIfInBounds p v) (mk n σ)=mk n (σ' k))
  (H:Hp S w0 w (c::R)) (hD:∀ T W,(∀ b,T b->c.foot b\/w.heap.size<=b)->Ext w W->D T W) (h0:I 0 c)
  (round:z8 P n w assign body N c I J σ')
  (done:∀ d w' c',Hp S w0 w' (cR d dfr::c'::R)->I N c'->Q .normal (F n σ (mark d::ds)) w')
  (stop:∀ d j k w' c',k<N->Hp S w0 w' (cR d dfr::c'::R)->J j k c'->j.wq none P Q (F n σ (mark d::ds)) w') :
  (Code.rangeFunc go ps assign body).wq none P Q (F n σ ds) w:=by
 refine wpIn_rangeFunc λfn _=>?_;have e1:(Instr.enterLoop fn (mk n σ) ps assign body none).run P w= .ok (w.heap.size+1,[mark w.heap.size]) ((w.alloc dfr).alloc (eP fn n σ ps assign body w.heap.size .ready none)):=run_enterLoop_outer _ _ _ _ _;have K1:Hp S w0 _ (cR w.heap.size dfr::c::R):=H.raw (w':=w.alloc dfr) ⟨rfl⟩;have K2:=K1.raw (w':=(w.alloc dfr).alloc (eP fn n σ ps assign body w.heap.size .ready none)) ⟨rfl⟩;have L1:Hp c.foot w _ (cR w.heap.size dfr::[c]):=H.here.raw (w':=w.alloc dfr) ⟨rfl⟩;have L2:=L1.raw (w':=(w.alloc dfr).alloc (eP fn n σ ps assign body w.heap.size .ready none)) ⟨rfl⟩
 have x1:Ext w ((w.alloc dfr).alloc (eP fn n σ ps assign body w.heap.size .ready none)):=by
  have h1:Al w (w.alloc dfr) dfr:=⟨rfl⟩;have h2:Al (w.alloc dfr) ((w.alloc dfr).alloc (eP fn n σ ps assign body w.heap.size .ready none)) _:=⟨rfl⟩;exact Ext.trans' h1.ext (Nat.le_refl _) h2.ext
 rw [World.size_alloc] at K2 L2;generalize (w.alloc dfr).alloc (eP fn n σ ps assign body w.heap.size .ready none)=W1 at e1 K2 L2 x1;refine ⟨w.heap.size+1,[mark w.heap.size],W1,{ target:=.fn (.func gf) lb.toArray,args:=#[.func (.yield (w.heap.size+1)) #[] #[]] },W1,gf,#[.func (.yield (w.heap.size+1)) #[] #[]]++lb.toArray,W1,e1,?_,λ_ _=>trivial,?_,jv none,j9 ?_⟩
 .rw [aP];have hc:ev n σ (.const (.func (.yield (w.heap.size+1)) #[] #[]))= .func (.yield (w.heap.size+1)) #[] #[]:=rfl;simp [resolve,hg,Deferred.ofValue,hc]
 .simp only [invoke];exact hcf _ _
 have M2:Hp S w0 W1 (cL [cR (w.heap.size+1) (eP fn n σ ps assign body w.heap.size .ready none),c,cR w.heap.size dfr]::R):=by
  refine Hp.mkL ?_;have:=K2.perm (M:=cR (w.heap.size+1) (eP fn n σ ps assign body w.heap.size .ready none)::c::cR w.heap.size dfr::R) (List.Perm.cons _ (List.Perm.swap _ _ _));exact this
 have N2:Hp c.foot w W1 [cL [cR (w.heap.size+1) (eP fn n σ ps assign body w.heap.size .ready none),c,cR w.heap.size dfr]]:=Hp.mkL (R:=[]) (L2.pick [0,2,1] (by decide));have hcall:=it (w.heap.size+1) (cL [cR (w.heap.size+1) (eP fn n σ ps assign body w.heap.size .ready none),c,cR w.heap.size dfr]) W1
  (λk x=>∃ c',x=cL [cR (w.heap.size+1) (eP fn n σ ps assign body w.heap.size .ready none),c',cR w.heap.size dfr]/\I k c')
  (λk x=>∃ j c',x=cL [cR (w.heap.size+1) (eP fn n σ ps assign body w.heap.size .done (some j)),c',cR w.heap.size dfr]/\J j k c')
  (hD _ _ (λb hb=>by
   obtain ⟨x,hx,hxb⟩:=hb;simp only [List.mem_cons,List.not_mem_nil,or_false] at hx
   rcases hx with rfl | rfl | rfl
   .have hxb:b=w.heap.size+1:=hxb;exact .inr (by omega)
   .exact .inl hxb
   .have hxb:b=w.heap.size:=hxb
    exact .inr (by omega)) x1) M2.here ⟨c,rfl,h0⟩ (λk x W hk ⟨c1,hx,hi⟩ HW=>by
   subst hx;have G:=(N2.call1 HW).unL
   exact H7 (hσ k) (hps k) (by omega) hk hi G round)
 have hargs:(#[.func (.yield (w.heap.size+1)) #[] #[]]++lb.toArray:Array Value)=(.func (.yield (w.heap.size+1)) #[] #[]::lb).toArray:=by simp
 rw [hargs];refine hcall.mono ?_;rintro e W2 ⟨⟨v,rfl⟩,x,K,(⟨c',rfl,hI⟩ | ⟨k,hk,j,c',rfl,hJ⟩)⟩
 .have H3:=(M2.call1 K).unL;have hl3:W2.heap[w.heap.size+1]?=some (.loop _):=H3.at 0 rfl;refine ⟨none,_,run_endLoop (P:=P) hl3 (by intro h;cases h),?_⟩;have H4:=H3.rput 0 rfl (o':=eP fn n σ ps assign body w.heap.size .exhausted none);exact done w.heap.size _ c' (H4.tail.perm (List.Perm.swap _ _ _)) hI
 .have H3:=(M2.call1 K).unL;have hl3:W2.heap[w.heap.size+1]?=some (.loop _):=H3.at 0 rfl;refine ⟨some j,_,run_endLoop (P:=P) hl3 (by intro h;cases h),?_⟩;have H4:=H3.rput 0 rfl (o':=eP fn n σ ps assign body w.heap.size .exhausted (some j));exact stop w.heap.size j k _ c' hk (H4.tail.perm (List.Perm.swap _ _ _)) hJ
end
theorem Nt {P:Program} {Q:Exit->Act->World->Prop} {n:Nat} {σ:Nat->Value} {ds:List Deferred} {w:World} {c:Code} {α:Type} (V:α->List (Nat × Value)) (DS:α->List Deferred) (Inv:α->World->Prop) (μ:α->Nat) (a0:α) (h0:zM σ (V a0)) (hds:ds=DS a0) (hi:Inv a0 w)
  (round:∀ τ x w,Inv x w->∀ Q':Exit->Act->World->Prop,(∀ σ' x' w',zM σ' (V x')->Inv x' w'->μ x'<μ x->Q' .normal (F n σ' (DS x')) w')->(∀ a w,Q .ret a w->Q' .ret a w)->(∀ id a w,Q (.exit id) a w->Q' (.exit id) a w)->c.wq rr P Q' (F n (Lh (V x) τ) (DS x)) w):(Code.loop c).wq rr P Q (F n σ ds) w:=by
 refine tQ (λm a w=>∃ σ x,a=F n σ (DS x)/\m=μ x/\zM σ (V x)/\Inv x w) (μ a0) ⟨σ,a0,by rw [hds],rfl,h0,hi⟩ ?_;rintro m a w ⟨σ,x,rfl,rfl,hV,hI⟩;have h:=round σ x w hI (Exit.then (λa' w'=>∃ j',j'<μ x/\∃ σ' x',a'=F n σ' (DS x')/\j'=μ x'/\zM σ' (V x')/\Inv x' w') Q) (λσ' x' _ h1 h2 h3=>⟨μ x',h3,σ',x',rfl,rfl,h1,h2⟩) (λ_ _ h=>h) (λ_ _ _ h=>h);rw [kN hV] at h;exact h
def BL {α β:Type} (V:α->List Ch) (VJ:β->List Ch) (Inv:Nat->α->Prop) (InvJ:Code->Nat->β->Prop) (k:Nat) (L:List Ch) (W:World):Exit->Act->World->Prop
 | .normal,_,w'=>∃ x,Hp (ry L) W w' (V x)/\Inv (k+1) x
 | .ret,_,w'=>∃ y,Hp (ry L) W w' (VJ y)/\InvJ .ret k y
 | .exit id,_,w'=>∃ y,Hp (ry L) W w' (VJ y)/\InvJ (.exit id) k y
 | .goto t,_,w'=>∃ y,Hp (ry L) W w' (VJ y)/\InvJ (.goto t) k y
 | _,_,_=>False
section
variable {P:Program} {Q:Exit->Act->World->Prop} {n:Nat} {σ:Nat->Value} {ds:List Deferred} {w w0:World} {go:Operand} {ps:Array Tmp} {assign body:Code} {gf:FuncId} {lb:List Value} {N:Nat} {enc:Nat->Array Value} {S:Nat->Prop} {R L M:List Ch} {σ':Nat->Nat->Value} {α β:Type} {Φ:World->Prop}
theorem Hp.mk1 (H:Hp S w0 w M):Hp S w0 w [cL M]:=Hp.mkL (R:=[]) (by rw [List.append_nil];exact H)
theorem Hp.hD (H:Hp S w0 w (L++R)) (hΦ:∀ W',Mod S w0 W'->(∀ c ∈ R,c.says W'.heap)->Φ W'):∀ (T:Nat->Prop) W,(∀ b,T b->ry L b\/w.heap.size<=b)->Ext w W->∀ W',Mod T W W'->Φ W':=λT W hT x W' m=>by
 have hR:∀ b c,c ∈ R->c.foot b->¬ T b:=λb c hc hb ht=>by
  have h1:=H.own c (List.mem_append_right _ hc) b hb
  rcases hT b ht with ⟨d,hd,hdb⟩ | h
  .exact (List.pairwise_append.1 H.apart).2.2 d hd c hc b hdb hb
  .omega
 refine hΦ W' ((H.fr.ext x).trans' m λb hb=>?_) λc hc=>c.keep (H.says c (List.mem_append_right _ hc)) λb hb hlt=>?_
 .rcases hT b hb with ⟨d,hd,hdb⟩ | h
  .exact (H.own d (List.mem_append_left _ hd) b hdb).2
  .exact .inr (Nat.le_trans H.size h)
 .rw [m.block b (Nat.lt_of_lt_of_le hlt x.size) (hR b c hc hb),x.block b hlt]
abbrev IA (P:Program) (n:Nat) (S:Nat->Prop) (w0:World) (assign body:Code) (N:Nat) (V:α->List Ch) (VJ:β->List Ch) (Inv:Nat->α->Prop) (InvJ:Code->Nat->β->Prop) (R:List Ch) (σ':Nat->Nat->Value):Prop:=
 ∀ l k x W1,k<N->Inv k x->Hp S w0 W1 (V x++R)->(∃ r,W1.heap[l]?=some (.loop r))->
  ∀ Q1:Exit->Act->World->Prop,
   (∀ a1 w1 L1,Hp (ry (V x)) W1 w1 L1->(∀ w2,Hp S w0 w2 (L1++R)->(∃ r,w2.heap[l]?=some (.loop r))->¬ ry L1 l->body.wq (some l) P (BL V VJ Inv InvJ k L1 w2) a1 w2)->Q1 .normal a1 w1)->
   assign.wq (some l) P Q1 (F n (σ' k) []) W1
theorem DT {V:α->List Ch} {VJ:β->List Ch} {Inv:Nat->α->Prop} {InvJ:Code->Nat->β->Prop} {x0:α} (H:Hp S w0 w (V x0++R)) (round:IA P n S w0 assign body N V VJ Inv InvJ R σ') :
  z8 P n w assign body N (cL (V x0)) (λk c=>∃ x,c=cL (V x)/\Inv k x) (λj k c=>∃ y,c=cL (VJ y)/\InvJ j k y) σ':=by
 rintro l k _ W1 hk ⟨x,rfl,hi⟩ HW _ hr hne Q1 hQ1;have H1:Hp S w0 W1 (V x++R):=(H.mkL.call1 HW).unL;refine round l k x W1 hk hi H1 hr Q1 λa1 w1 L1 K hb=>hQ1 a1 w1 (cL L1) K.mk1 λw2 HW2 hr2 hne2=>?_;have H2:Hp S w0 w2 (L1++R):=(H.mkL.call1 HW2).unL;refine wpIn_mono (hb w2 H2 hr2 hne2) λe a w' hp=>?_
 cases e with
 | normal=>obtain ⟨x',h1,h2⟩:=hp;exact ⟨_,h1.mk1,x',rfl,h2⟩
 | ret=>obtain ⟨x',h1,h2⟩:=hp;exact ⟨_,h1.mk1,x',rfl,h2⟩
 | exit id=>obtain ⟨x',h1,h2⟩:=hp;exact ⟨_,h1.mk1,x',rfl,h2⟩
 | goto id=>obtain ⟨x',h1,h2⟩:=hp;exact ⟨_,h1.mk1,x',rfl,h2⟩
 | panic ch=>exact hp.elim
 | outgrown=>exact hp.elim
theorem wN (V:α->List Ch) (VJ:β->List Ch) (Inv:Nat->α->Prop) (InvJ:Code->Nat->β->Prop) (x0:α)
  (hg:ev n σ go= .func (.func gf) #[] lb.toArray) (hcf:CF P gf) (it:Iw P gf lb N enc (λT W=>∀ W',Mod T W W'->Φ W')) (hps:∀ k,(enc k).size=ps.size) (hσ:∀ k,(ps.zip (enc k)).foldl (λt (p,v)=>t.setIfInBounds p v) (mk n σ)=mk n (σ' k))
  (H:Hp S w0 w (V x0++R)) (hΦ:∀ W',Mod S w0 W'->(∀ c ∈ R,c.says W'.heap)->Φ W') (h0:Inv 0 x0)
  (round:IA P n S w0 assign body N V VJ Inv InvJ R σ')
  (done:∀ d w' x,Hp S w0 w' (cR d dfr::(V x++R))->Inv N x->Q .normal (F n σ (mark d::ds)) w')
  (stop:∀ d j k w' y,k<N->Hp S w0 w' (cR d dfr::(VJ y++R))->InvJ j k y->j.wq none P Q (F n σ (mark d::ds)) w') :
  (Code.rangeFunc go ps assign body).wq none P Q (F n σ ds) w:=by
 refine O5 hg hcf it hps hσ H.mkL (λT W hT x=>H.hD hΦ T W hT x) ⟨x0,rfl,h0⟩ (DT H round) ?_ ?_
 .rintro d w' _ Hd ⟨x,rfl,hi⟩;have h1:Hp S w0 w' (cL (V x)::cR d dfr::R):=Hd.perm (List.Perm.swap _ _ _);exact done d w' x (h1.unL.perm List.perm_middle) hi
 .rintro d j k w' _ hk Hd ⟨y,rfl,hi⟩;have h1:Hp S w0 w' (cL (VJ y)::cR d dfr::R):=Hd.perm (List.Perm.swap _ _ _);exact stop d j k w' y hk (h1.unL.perm List.perm_middle) hi
theorem Mod.x {w w':World} (m:Mod No w w'):Ext w w':=⟨m.os,m.tape,m.output,m.size,λb hb=>m.block b hb λh=>h⟩
end
def cM (Ds:List Nat):Ch:=cL (Ds.map λD=>cR D dfr)
def Rm (Ds:List Nat):List Deferred:=Ds.map mark
section
variable {P:Program} {fn:Func} {R:Ending->World->Prop} {n:Nat} {σ:Nat->Value} {S:Nat->Prop} {w w0:World} {L:List Ch}
theorem Hp.mnil (H:Hp S w0 w L):Hp S w0 w (cM []::L):=Hp.mkL (M:=[]) H
theorem Hp.mcons {D:Nat} {Ds:List Nat} (H:Hp S w0 w (cR D dfr::cM Ds::L)):Hp S w0 w (cM (D::Ds)::L):=by
 have H1:Hp S w0 w (cM Ds::cR D dfr::L):=H.perm (List.Perm.swap _ _ _);have H2:Hp S w0 w ((Ds.map λD=>cR D dfr)++(cR D dfr::L)):=H1.unL;exact Hp.mkL (M:=cR D dfr::Ds.map λD=>cR D dfr) (H2.perm (by rw [List.cons_append];exact List.perm_middle))
theorem BX {tmps:Array Value}:∀ (Ds:List Nat) (w:World),Hp S w0 w (cM Ds::L)->(∀ w',Hp S w0 w' L->∃ v,(results fn tmps).run P w'= .ok v w'/\R (.returned v) w')->LeavesInM Fence.wide 0 P fn tmps R (Rm Ds) .returning w
 | [],w,H,k=>k w (Hp.unL (M:=[]) H)
 | D::Ds,w,H,k=>by
  have H1:Hp S w0 w (cR D dfr::((Ds.map λD=>cR D dfr)++L)):=Hp.unL (M:=(D::Ds).map λD=>cR D dfr) H;have hb:w.heap[D]?=some dfr:=H1.at 0 rfl;refine ⟨by simp,.inl ⟨D,_,rfl,run_takeDeferred hb,?_⟩⟩;have H2:=H1.rput 0 rfl (o':=.deferred none);exact BX Ds _ (Hp.mkL (M:=Ds.map λD=>cR D dfr) H2.tail) k
theorem leaveM {Ds:List Nat} (H:Hp S w0 w (cM Ds::L)) (k:∀ w',Hp S w0 w' L->bodyPost P fn R .ret (F n σ []) w'):bodyPostM Fence.wide 0 P fn R .ret (F n σ (Rm Ds)) w:=
 BX Ds w H λw' H'=>(k w' H').2
theorem leaveM1 {D:Nat} (H:Hp S w0 w (cR D dfr::L)) (k:∀ w',Hp S w0 w' L->bodyPost P fn R .ret (F n σ []) w'):bodyPostM Fence.wide 0 P fn R .ret (F n σ [mark D]) w:=
 leaveM (Ds:=[D]) (Hp.mkL (M:=[cR D dfr]) H) k
theorem leaveM0 (h:bodyPost P fn R .ret (F n σ []) w):bodyPostM Fence.wide 0 P fn R .ret (F n σ []) w:=h.2
theorem wV {f:FuncId} {c:Code} {args:List Value}
  (hf:P.funcs[f]?=some fn) (hb:fn.body=some c) (n:Nat) (hn:fn.ntmps=n) (hl0:Nat.ble args.length n=true)
  (h:c.wq none P (bodyPostM Fence.wide 0 P fn R) (F n (tK args) []) w):Calls P f args.toArray w R:=by
 refine callsIn_wide.1 (callsIn_of_wp_marks (n:=0) hf hb trivial ?_);subst hn;rw [Kt (Nat.le_of_ble_eq_true hl0)];exact h
end
section
variable {P:Program} {ops:Array Oper} {Q:Exit->Act->World->Prop} {rest:List Oper} {n:Nat} {σ:Nat->Value} {ds:List Deferred} {w:World} {ty:TypeId} {pos:String} {af:Array Edge} {d:Nat} {v:Value}
theorem RO {x:Operand} {args:Array Operand} {ats:Array TypeId} {l:Nat} {vs:List Value} {R:Ending->World->Prop} (hx:ev n σ x= .func (.yield l) #[] #[]) (hv:args.toList.map (ev n σ)=vs) (hy:BR Fence.wide 0 P l vs.toArray w R)
  (k:∀ e w',R e w'->∃ v,e= .returned v/\WL rr P ops Q rest (F n (gT σ d v) ds) w'):WL rr P ops Q (⟨some d,.call { callee:=.value x,args:=args,argTypes:=ats },ty,pos,af,none⟩::rest) (F n σ ds) w:=by
 obtain ⟨fn,tmps,assign,body,hr,hR⟩:=hy;refine WL.mono rfl ⟨λf _=>kw rr f,?_⟩;have hv':vs.toArray=args.map (ev n σ):=by subst hv;apply Array.toList_inj.1;simp
 rw [hv'] at hr
 have he:(execOp (ev n σ) ⟨some d,.call { callee:=.value x,args:=args,argTypes:=ats },ty,pos,af,none⟩).run P w= .ok (.round l fn tmps assign body) w:=by
  simp [execOp,resolve,hx,Deferred.ofValue,invoke,hr]
 rw [aP,nz he (by intro d e;cases e)];simp only [Oper.uponIn];have hR':RoundIn (zu rr) 0 P l fn tmps assign body w R:=by cases rr <;> exact hR
 refine ⟨jv rr,hR'.mono λe w' h=>?_⟩;obtain ⟨v,rfl,hk⟩:=k e w' h;simp only [fT];exact hk
theorem st_r {x:Operand} {args:Array Operand} {ats:Array TypeId} {l:Nat} {vs:List Value} {c:Ch} {Y N:Ch->Prop} (hx:ev n σ x= .func (.yield l) #[] #[]) (hv:args.toList.map (ev n σ)=vs) (hy:Rt P l vs.toArray c w Y N)
  (k1:∀ w' c',Hp c.foot w w' [c']->Y c'->WL rr P ops Q rest (F n (gT σ d (.bool true)) ds) w') (k2:∀ w' c',Hp c.foot w w' [c']->N c'->WL rr P ops Q rest (F n (gT σ d (.bool false)) ds) w'):WL rr P ops Q (⟨some d,.call { callee:=.value x,args:=args,argTypes:=ats },ty,pos,af,none⟩::rest) (F n σ ds) w:=by
 refine RO hx hv hy λe w' ⟨c',h1,h2⟩=>?_
 rcases h2 with ⟨rfl,h2⟩ | ⟨rfl,h2⟩
 .exact ⟨_,rfl,k1 w' c' h1 h2⟩
 .exact ⟨_,rfl,k2 w' c' h1 h2⟩
end
section
variable {P:Program} {n:Nat} {σ:Nat->Value} {w:World} {ty t t':TypeId} {x y:Operand}
end
theorem jw {P:Program} {n:Nat} {σ:Nat->Value} {w:World} {ty:TypeId} {f:Fn} {a b:Array Operand} {v:Value} (hrun:∀ w,(Instr.makeFunc f (a.map (ev n σ)) (b.map (ev n σ))).run P w= .ok v w):Ex P (ev n σ) w (.makeFunc f a b) ty v:=by
 intro _ _ _ _;simp [execOp,hrun]
def jJ (tmps:Array Value):ResultVar->Sem Value
 | .tmp t=>pure (tmps.getD t undef)
 | .cell a t=>do loadVar t (← asAddr (tmps.getD a undef))
theorem xU (fn:Func) (tmps:Array Value):results fn tmps=(do let vs ← fn.results.mapM (jJ tmps);pure (if h:vs.size=1 then vs[0] else .tuple vs)):=by
 unfold results
 congr 1
section
variable {P:Program} {fn:Func} {R:Ending->World->Prop} {n:Nat} {σ:Nat->Value} {w:World}
def OE (P:Program) (n:Nat) (σ:Nat->Value) (w:World):List ResultVar->List Value->Prop
 | [],[]=>True
 | r::rs,v::vs=>(jJ (mk n σ) r).run P w= .ok v w/\OE P n σ w rs vs
 | _,_=>False
theorem di {t:Nat} {v:Value} (h:ev n σ (.tmp t)=v):(jJ (mk n σ) (.tmp t)).run P w= .ok v w:=by
 have e:(mk n σ).getD t undef=ev n σ (.tmp t):=lI n σ t;simp only [jJ,Sem.run_pure,e,h]
theorem Ck {a T b o:Nat} {v:Value} (hN:NA P T) (h:ev n σ (.tmp a)= .pointer (some ⟨b,o,none⟩)) (hc:Cells w.heap b o [v]):(jJ (mk n σ) (.cell a T)).run P w= .ok v w:=by
 have e:(mk n σ).getD a undef=ev n σ (.tmp a):=lI n σ a;have h1:=hN w;have h2:=hc.one;simp only [jJ,e,h];simp [asAddr,loadVar,h1,load,Sem.run,h2]
theorem eD {a T b o:Nat} {cs:List Value} (hA:AG P T cs.length) (h:ev n σ (.tmp a)= .pointer (some ⟨b,o,none⟩)) (hc:Cells w.heap b o cs):(jJ (mk n σ) (.cell a T)).run P w= .ok (.agg cs.toArray) w:=by
 have e:(mk n σ).getD a undef=ev n σ (.tmp a):=lI n σ a;obtain ⟨h2,h3⟩:=hA w;have h4:=dI (P:=P) hc cs.length 0 #[] (by omega);simp only [List.drop_zero,Array.empty_append] at h4;simp only [jJ,e,h];simp [asAddr,loadVar,h2,h3,loadCells,h4]
theorem xG:∀ (rs:List ResultVar) (vs:List Value),OE P n σ w rs vs->(rs.mapM (jJ (mk n σ))).run P w= .ok vs w
 | [],[],_=>by simp
 | r::rs,v::vs,h=>by simp only [List.mapM_cons,Sem.run_bind,h.1,Result.andThen_ok,xG rs vs h.2,Sem.run_pure]
 | [],_::_,h=>h.elim
 | _::_,[],h=>h.elim
theorem leaveG {rs:List ResultVar} {vs:List Value} (hr:fn.results=rs.toArray) (h:OE P n σ w rs vs) (h2:Nat.ble 2 vs.length=true) (hR:R (.returned (.tuple vs.toArray)) w):bodyPost P fn R .ret (F n σ []) w:=by
 refine ⟨rfl,.tuple vs.toArray,?_,hR⟩;show (results fn (mk n σ)).run P w=_;rw [xU,hr,Array.mapM_eq_mapM_toList];simp only [Sem.run_bind,Sem.run_map,xG rs vs h,Result.andThen_ok,Sem.run_pure];rw [dif_neg (by have:=Nat.le_of_ble_eq_true h2;simp only [List.size_toArray];omega)]
end
end Go.Eng
namespace Go.Eng
open Go.RowKit Go.Maps Go.WideMaps Go.ChangeMaps
variable {rr:Option Nat}
structure KE (P:Program) (k:TypeId) (β:Type) where
 kv:β->Value
 kl:β->Lit
 ok:β->Prop
 key:∀ {x},ok x->keyOf P k (kv x)=some (kl x)
 inj:∀ {x y},kv x=kv y->x=y
 inv:∀ {v l},keyOf P k v=some l->∃ x,ok x/\v=kv x/\l=kl x
 law:Keyed P k
def hR:Value->Option (DataW Value × List MemPlace):=λv=>some (.held v,[])
section
variable {P:Program} {k e t:TypeId} {β α:Type} {E:KE P k β} {ve:α->Value} {w w':World} {b n:Nat} {f:β->Option α}
theorem KE.ne (E:KE P k β) {x y:β} (hx:E.ok x) (hy:E.ok y) (h:E.kl x=E.kl y):x=y:=E.inj (E.law.inj (E.key hx) (h▸E.key hy))
def MapH (E:KE P k β) (ve:α->Value) (h:Array Obj) (b n:Nat) (f:β->Option α):Prop:=
 ∃ (w:World) (D:DataW Value),w.heap=h/\w.ownsMap P k hR b n D/\∀ x,E.ok x->Maps.has D (E.kl x)=(f x).isSome/\∀ z,D.atKey (E.kl x) (.held z)= .held ((f x).elim z ve)
theorem uY {D:DataW Value} (h:w.ownsMap P k hR b n D) (e:w'.heap[b]?=w.heap[b]?):w'.ownsMap P k hR b n D:=by
 obtain ⟨es,clock,hb,r⟩:=h;exact ⟨es,clock,e.trans hb,r⟩
theorem MapH.at (h:MapH E ve w.heap b n f):∃ D,w.ownsMap P k hR b n D/\∀ x,E.ok x->Maps.has D (E.kl x)=(f x).isSome/\∀ z,D.atKey (E.kl x) (.held z)= .held ((f x).elim z ve):=by
 obtain ⟨w1,D,hw,h1,h2⟩:=h;exact ⟨D,uY h1 (by rw [hw]),h2⟩
theorem MapH.lt {h:Array Obj} (hm:MapH E ve h b n f):b<h.size:=by
 obtain ⟨w1,D,rfl,h1,_⟩:=hm;exact h1.lt
theorem MapH.keep {h h':Array Obj} (hm:MapH E ve h b n f) (e:h'[b]?=h[b]?):MapH E ve h' b n f:=by
 obtain ⟨w1,D,rfl,h1,h2⟩:=hm;exact ⟨{ w1 with heap:=h' },D,rfl,uY h1 e,h2⟩
def dh (E:KE P k β) (ve:α->Value) (b n:Nat) (f:β->Option α):Ch:=⟨λz=>z=b,λh=>MapH E ve h b n f,λhs hk=>hs.keep (hk _ rfl hs.lt)⟩
theorem MapH.made:MapH E ve (w.alloc (.map #[] 0)).heap w.heap.size 0 (λ_=>(none:Option α)):=
 ⟨_,.map [],rfl,World.ownsMap_made w P k _,λ_ _=>⟨rfl,λ_=>rfl⟩⟩
theorem MapH.put [DecidableEq β] (h:MapH E ve w.heap b n f) (ht:P.underlying t=some (.map k e)) (hn:n<maxLen) {x:β} (hx:E.ok x) (a:α) :
  ∃ w',(Instr.mapUpdate t (.map (some b)) (E.kv x) (ve a)).run P w= .ok () w'/\MapH E ve w'.heap b (n+1) (λy=>if y=x then some a else f y)/\w.grownBy w' (some b):=by
 obtain ⟨D,h1,h2⟩:=h.at;obtain ⟨w',hr,ho,hg⟩:=h1.update (val:=ve a) (d:=.held (ve a)) (ps:=[]) E.law ht hn (E.key hx) rfl;refine ⟨w',hr,⟨w',_,rfl,ho,λy hy=>?_⟩,hg⟩
 by_cases e:y=x
 .subst e;simp only [if_true];exact ⟨has_put_same h1.isMap (E.law.key (E.key hx)) _,λz=>atKey_put_same h1.isMap (E.law.key (E.key hx)) _ _⟩
 .dsimp only;rw [if_neg e];have hne:E.kl y≠E.kl x:=λh=>e (E.ne hy hx h);exact ⟨(has_put_other hne _).trans (h2 y hy).1,λz=>(atKey_put_other hne _ _).trans ((h2 y hy).2 z)⟩
theorem MapH.get (h:MapH E ve w.heap b n f) (ht:P.underlying t=some (.map k e)) {z:Value} (hz:(zeroValue e).run P w= .ok z w) {x:β} (hx:E.ok x) :
  (Instr.lookup t (.map (some b)) (E.kv x) false).run P w= .ok ((f x).elim z ve) w:=by
 obtain ⟨D,h1,h2⟩:=h.at;obtain ⟨v,ps,hr,hv⟩:=h1.lookup E.law ht hz (zd:=.held z) (zp:=[]) rfl (E.key hx);rw [(h2 x hx).2 z] at hv;injection hv with hv;injection hv with hv _;injection hv with hv;rw [← hv];exact hr
theorem MapH.getO (h:MapH E ve w.heap b n f) (ht:P.underlying t=some (.map k e)) {z:Value} (hz:(zeroValue e).run P w= .ok z w) {x:β} (hx:E.ok x) :
  (Instr.lookup t (.map (some b)) (E.kv x) true).run P w= .ok (.tuple #[(f x).elim z ve,.bool (f x).isSome]) w:=by
 obtain ⟨D,h1,h2⟩:=h.at;obtain ⟨v,ps,hr,hv⟩:=h1.look_ok E.law ht hz (zd:=.held z) (zp:=[]) rfl (E.key hx);rw [(h2 x hx).2 z] at hv;injection hv with hv;injection hv with hv _;injection hv with hv;rw [← hv,← (h2 x hx).1];exact hr
def RngH (E:KE P k β) (ve:α->Value) (h:Array Obj) (b r n:Nat) (f:β->Option α) (left:β->Prop) (cnt:Nat):Prop:=
 ∃ (w:World) (D:DataW Value) (lf:Lit->Bool),w.heap=h/\w.ranges P k hR b r n D lf cnt/\(∀ x,E.ok x->Maps.has D (E.kl x)=(f x).isSome/\∀ z,D.atKey (E.kl x) (.held z)= .held ((f x).elim z ve))/\
  (∀ x,E.ok x->(lf (E.kl x)=true↔left x))/\∀ x,left x->E.ok x/\(f x).isSome=true
theorem qk {D:DataW Value} {lf:Lit->Bool} {r cnt:Nat} (h:w.ranges P k hR b r n D lf cnt) (e:w'.heap[b]?=w.heap[b]?) (e':w'.heap[r]?=w.heap[r]?):w'.ranges P k hR b r n D lf cnt:=by
 obtain ⟨es,clock,since,seen,c0,q1,q2,q3,q4,q5,q6⟩:=h;exact ⟨es,clock,since,seen,c0,e.trans q1,q2,q3,q4,e'.trans q5,q6⟩
theorem RngH.lt {h:Array Obj} {r cnt:Nat} {left:β->Prop} (hm:RngH E ve h b r n f left cnt):b<h.size/\r<h.size:=by
 obtain ⟨w1,D,lf,rfl,h1,_⟩:=hm;exact ⟨h1.owns.lt,h1.lt⟩
theorem RngH.keep {h h':Array Obj} {r cnt:Nat} {left:β->Prop} (hm:RngH E ve h b r n f left cnt) (e:h'[b]?=h[b]?) (e':h'[r]?=h[r]?):RngH E ve h' b r n f left cnt:=by
 obtain ⟨w1,D,lf,rfl,h1,h2⟩:=hm;exact ⟨{ w1 with heap:=h' },D,lf,rfl,qk h1 e e',h2⟩
def AL (E:KE P k β) (ve:α->Value) (b r n:Nat) (f:β->Option α) (left:β->Prop) (cnt:Nat):Ch:=
 ⟨λz=>z=b\/z=r,λh=>RngH E ve h b r n f left cnt,λhs hk=>hs.keep (hk _ (.inl rfl) hs.lt.1) (hk _ (.inr rfl) hs.lt.2)⟩
end
section
variable {P:Program} {n:Nat} {σ:Nat->Value} {w w0:World} {ty t k e:TypeId} {K:Value->World->Prop} {m x v:Operand} {b c r cnt:Nat} {S:Nat->Prop} {L:List Ch} {β α:Type} {E:KE P k β} {ve:α->Value} {f:β->Option α} {left:β->Prop}
theorem Hp.mp (H:Hp S w0 w L) (i:Nat) (hi:L[i]?=some (dh E ve b c f)):MapH E ve w.heap b c f:=H.at i hi
theorem Emm (E:KE P k β) (ve:α->Value) (H:Hp S w0 w L) (kk:∀ b w',Hp S w0 w' (dh E ve b 0 (λ_=>none)::L)->Ext w w'->K (.map (some b)) w'):fU P (ev n σ) w (.makeMap t none) ty K:=by
 have hA:Al w (w.alloc (.map #[] 0)) (.map #[] 0):=⟨rfl⟩;refine ⟨_,_,kk w.heap.size (w.alloc (.map #[] 0)) ?_ hA.ext,.inl λ_ _ _ _=>by simp [execOp,run_makeMap]⟩;refine Hp.app' H (M:=[dh E ve w.heap.size 0 (λ_=>none)]) ⟨hA.ext.mod _,λc hc=>?_,λc hc z hz=>?_,List.pairwise_singleton _ _⟩
 .rw [List.mem_singleton] at hc;subst hc;exact MapH.made
 .rw [List.mem_singleton] at hc;subst hc;have hz:z=w.heap.size:=hz;subst hz;exact ⟨by rw [hA.size];omega,.inr (Nat.le_refl _)⟩
theorem EmmS {ki:IntKind} {z:Int} (E:KE P k β) (ve:α->Value) (H:Hp S w0 w L) (ht:P.underlying t=some (.map k e)) (hx:ev n σ x= .int ki z) (kk:∀ b w',Hp S w0 w' (dh E ve b 0 (λ_=>none)::L)->Ext w w'->K (.map (some b)) w'):fU P (ev n σ) w (.makeMap t (some x)) ty K:=by
 have hA:Al w (w.alloc (.map #[] 0)) (.map #[] 0):=⟨rfl⟩
 have key:(Instr.makeMap t (some (.int ki z))).run P w= .ok (.map (some w.heap.size)) (w.alloc (.map #[] 0)):=by
  have h0:=run_makeMap (P:=P) t w;simp only [Instr.makeMap,Sem.run_bind] at h0 ⊢;simp only [run_underlying ht,Result.andThen_ok,asInt,Sem.run_pure,Sem.run_bind] at h0 ⊢;exact h0
 refine ⟨_,_,kk w.heap.size (w.alloc (.map #[] 0)) ?_ hA.ext,.inl λ_ _ _ _=>by simp [execOp,hx,key]⟩;refine Hp.app' H (M:=[dh E ve w.heap.size 0 (λ_=>none)]) ⟨hA.ext.mod _,λc hc=>?_,λc hc z hz=>?_,List.pairwise_singleton _ _⟩
 .rw [List.mem_singleton] at hc;subst hc;exact MapH.made
 .rw [List.mem_singleton] at hc;subst hc;have hz:z=w.heap.size:=hz;subst hz;exact ⟨by rw [hA.size];omega,.inr (Nat.le_refl _)⟩
theorem Emu [DecidableEq β] {y:β} {a:α} (H:Hp S w0 w L) (i:Nat) (hi:L[i]?=some (dh E ve b c f)) (hm:ev n σ m= .map (some b)) (hx:ev n σ x=E.kv y) (hv:ev n σ v=ve a) (ht:P.underlying t=some (.map k e)) (hy:E.ok y) (hc:c<maxLen)
  (kk:∀ w',Hp S w0 w' (L.set i (dh E ve b (c+1) (λz=>if z=y then some a else f z)))->K undef w'):fU P (ev n σ) w (.mapUpdate t m x v) ty K:=by
 obtain ⟨w',hr,ho,hg⟩:=(H.mp i hi).put ht hc hy a;refine ⟨undef,w',kk w' (H.upd i hi (S':=λz=>z=b) ((Mod.refl _ w).grown hg λz hz=>.inl (by cases hz;rfl)) (λ_ h=>h) ho λz hz=>⟨?_,.inl hz⟩),.inr ⟨rfl,λ_ _ _ _=>?_⟩⟩
 .have hz:z=b:=hz;subst hz;exact ho.lt
 .simp [execOp,hm,hx,hv,hr]
theorem RX {z:Value} {y:β} (h:MapH E ve w.heap b c f) (hm:ev n σ m= .map (some b)) (hx:ev n σ x=E.kv y) (ht:P.underlying t=some (.map k e)) (hz:∀ u:World,(zeroValue e).run P u= .ok z u) (hy:E.ok y):Ex P (ev n σ) w (.lookup t m x false) ty ((f y).elim z ve):=by
 intro _ _ _ _;simp [execOp,hm,hx,h.get ht (hz w) hy]
theorem PV {z:Value} {y:β} (h:MapH E ve w.heap b c f) (hm:ev n σ m= .map (some b)) (hx:ev n σ x=E.kv y) (ht:P.underlying t=some (.map k e)) (hz:∀ u:World,(zeroValue e).run P u= .ok z u) (hy:E.ok y):Ex P (ev n σ) w (.lookup t m x true) ty (.tuple #[(f y).elim z ve,.bool (f y).isSome]):=by
 intro _ _ _ _;simp [execOp,hm,hx,h.getO ht (hz w) hy]
theorem Erg (H:Hp S w0 w L) (i:Nat) (hi:L[i]?=some (dh E ve b c f)) (hm:ev n σ m= .map (some b)) (ht:P.underlying t=some (.map k e)) (hf:∀ x,(f x).isSome=true->E.ok x)
  (kk:∀ r w' cnt,Hp S w0 w' (L.set i (AL E ve b r c f (λx=>(f x).isSome=true) cnt))->K (.pointer (some ⟨r,0,none⟩)) w'):fU P (ev n σ) w (.range t m) ty K:=by
 obtain ⟨D,h1,h2⟩:=(H.mp i hi).at;obtain ⟨w',hr,ho,hg,hs⟩:=h1.range E.law ht;refine ⟨_,w',kk w.heap.size w' _ (H.upd i hi (S':=λ_=>False) ((Mod.refl _ w).grown hg λz hz=>by cases hz) (λ_ h=>h.elim) ⟨w',D,_,rfl,ho,h2,λx hx=>?_,λx hx=>⟨hf x hx,hx⟩⟩ λz hz=>?_),.inl λ_ _ _ _=>?_⟩
 .rw [(h2 x hx).1]
 .rcases hz with rfl | rfl
  .exact ⟨ho.owns.lt,.inl rfl⟩
  .exact ⟨ho.lt,.inr (Nat.le_refl _)⟩
 .simp [execOp,hm,hr]
theorem Enx (H:Hp S w0 w L) (i:Nat) (hi:L[i]?=some (AL E ve b r c f left cnt)) (hx:ev n σ x= .pointer (some ⟨r,0,none⟩))
  (kk0:(∀ y,¬ left y)->K (.tuple #[.bool false]) w)
  (kk1:∀ (y:β) (a:α) (w':World) (cnt':Nat),E.ok y->left y->f y=some a->cnt'<cnt->Hp S w0 w' (L.set i (AL E ve b r c f (λz=>left z/\z≠y) cnt'))->
   (Instr.entry (.pointer (some ⟨r,0,none⟩))).run P w'= .ok (.tuple #[E.kv y,ve a]) w'->K (.tuple #[.bool true,E.kv y,ve a]) w'):fU P (ev n σ) w (.next x false) ty K:=by
 have h0:RngH E ve w.heap b r c f left cnt:=H.at i hi;obtain ⟨w1,D,lf,hw,h1,h2,h4,h5⟩:=h0;have h1:w.ranges P k hR b r c D lf cnt:=qk h1 (by rw [hw]) (by rw [hw]);have hlt:=λz=>H.lt i hi (b:=z)
 rcases h1.next E.law ty with ⟨_,hl,hr⟩ | ⟨key,v,kl,y,w',cnt',hkey,hl,hv,hat,hr,ho,hc,hg,hs,hen⟩
 .refine ⟨_,w,kk0 λs hls=>?_,.inl λ_ _ _ _=>?_⟩
  .have:=(h4 s (h5 s hls).1).2 hls;rw [hl] at this;cases this
  .simp [execOp,hx,hr]
 .obtain ⟨s,hok,rfl,rfl⟩:=E.inv hkey;have hls:=(h4 s hok).1 hl;obtain ⟨a,ha⟩:=Option.isSome_iff_exists.1 (h5 s hls).2
  have hva:v=ve a:=by
   have h3:=(h2 s hok).2 undef;rw [hat,ha] at h3;injection hv with hv;subst hv;injection h3 with h3
  subst hva;refine ⟨_,w',kk1 s a w' cnt' hok hls ha hc (H.upd i hi (S':=λz=>z=r) ((Mod.refl _ w).grown hg λz hz=>.inl (by cases hz;rfl)) (λz hz=>.inr hz) ⟨w',D,_,rfl,ho,h2,λz hz=>?_,λz hz=>h5 z hz.1⟩ λz hz=>⟨?_,.inl hz⟩) ?_,.inl λ_ _ _ _=>?_⟩
  .simp only [Bool.and_eq_true,Bool.not_eq_true'];rw [h4 z hz]
   constructor
   .rintro ⟨q1,q2⟩;refine ⟨q1,λe=>?_⟩;subst e;rw [WideAt.sameKey_self (E.law.key hkey)] at q2;cases q2
   .rintro ⟨q1,q2⟩;exact ⟨q1,sameKey_ne λe=>q2 (E.ne hz hok e)⟩
  .rw [hs];exact hlt z hz
  .exact hen
  .simp [execOp,hx,hr]
theorem Nh {u:Value} (hx:ev n σ x= .pointer (some ⟨r,0,none⟩)) (h:(Instr.entry (.pointer (some ⟨r,0,none⟩))).run P w= .ok u w):Ex P (ev n σ) w (.entry x) ty u:=by
 intro _ _ _ _;simp [execOp,hx,h]
end
section
variable {P:Program} {n:Nat} {σ:Nat->Value} {w:World} {ty t k e:TypeId} {m x:Operand} {b c:Nat} {β α:Type} {E:KE P k β} {ve:α->Value} {f:β->Option α}
theorem CQ (o:Option α) (d:α):o.elim (ve d) ve=ve (o.getD d):=by cases o <;> rfl
theorem kU {d:α} {y:β} (h:MapH E ve w.heap b c f) (hm:ev n σ m= .map (some b)) (hx:ev n σ x=E.kv y) (ht:P.underlying t=some (.map k e)) (hz:∀ u:World,(zeroValue e).run P u= .ok (ve d) u) (hy:E.ok y):Ex P (ev n σ) w (.lookup t m x false) ty (ve ((f y).getD d)):=by
 rw [← CQ (f y) d (ve:=ve)];exact RX h hm hx ht hz hy
theorem OA {d:α} {y:β} (h:MapH E ve w.heap b c f) (hm:ev n σ m= .map (some b)) (hx:ev n σ x=E.kv y) (ht:P.underlying t=some (.map k e)) (hz:∀ u:World,(zeroValue e).run P u= .ok (ve d) u) (hy:E.ok y):Ex P (ev n σ) w (.lookup t m x true) ty (.tuple #[ve ((f y).getD d),.bool (f y).isSome]):=by
 rw [← CQ (f y) d (ve:=ve)];exact PV h hm hx ht hz hy
end
def R6 {P:Program} {k:TypeId} (hk:P.underlying k=some .string):KE P k ByteArray where
 kv:=.string
 kl:=λs=>.string s.data.toList
 ok:=λs=>s.size<=maxLen
 key:=λh=>keyOf_string_mk hk h
 inj:=λh=>by injection h
 inv:=λ{v l} h=>by
  cases v <;> simp [keyOf,hk,mapKey] at h
  obtain ⟨h1,rfl⟩:=h;exact ⟨_,h1,rfl,rfl⟩
 law:=string_keyed hk
end Go.Eng
namespace Go.Eng
open Go.RowKit Go.Maps Go.WideMaps Go.ChangeMaps
abbrev Dp:=ByteArray × ByteArray × Bool
structure KD (P:Program) (k:TypeId):Prop where
 fs:∃ f1 f2 f3:Field,P.underlying k=some (.struct #[f1,f2,f3])/\(f1.name != "_")=true/\(f2.name != "_")=true/\(f3.name != "_")=true/\f1.offset=0/\f2.offset=1/\f3.offset=2/\P.underlying f1.type=some .string/\P.underlying f2.type=some .string/\P.underlying f3.type=some .bool/\P.cellsOf f1.type=1/\P.cellsOf f2.type=1/\P.cellsOf f3.type=1
 kt:P.keyType k=true
 cells:P.cellsOf k=3
 size:0<P.types.size
 law:Keyed P k
section
variable {P:Program} {k t:TypeId}
theorem Qk {d:Nat} {a:ByteArray} (hu:P.underlying t=some .string) (h:a.size<=maxLen):P.keyLits (d+1) t [.string a]=some [.string a.data.toList]:=by
 unfold Program.keyLits;rw [hu];simp [h]
theorem Sr {d:Nat} {a:Bool} (hu:P.underlying t=some .bool):P.keyLits (d+1) t [.bool a]=some [.bool a]:=by
 unfold Program.keyLits;rw [hu]
theorem Np {d:Nat} {cs:List Value} {l:List Lit} (hu:P.underlying t=some .string) (h:P.keyLits d t cs=some l):∃ s:ByteArray,s.size<=maxLen/\cs=[.string s]/\l=[.string s.data.toList]:=by
 obtain ⟨s,rfl,rfl⟩:=keyLits_string' hu h;refine ⟨s,?_,rfl,rfl⟩
 cases d with
 | zero=>simp [Program.keyLits] at h
 | succ d=>
  unfold Program.keyLits at h
  rw [hu] at h
  simp at h
  exact h
def DP (h:KD P k):KE P k Dp where
 kv:=λx=>.agg #[.string x.1,.string x.2.1,.bool x.2.2]
 kl:=λx=>.string (keyBytes [.string x.1.data.toList,.string x.2.1.data.toList,.bool x.2.2])
 ok:=λx=>x.1.size<=maxLen/\x.2.1.size<=maxLen
 key:=by
  rintro ⟨a,b,c⟩ ⟨ha,hb⟩;obtain ⟨f1,f2,f3,hu,n1,n2,n3,o1,o2,o3,u1,u2,u3,c1,c2,c3⟩:=h.fs;obtain ⟨m,hm⟩:∃ m,P.types.size=m+1:=⟨P.types.size-1,by have:=h.size;omega⟩
  have e:P.keyLits (m+2) k [.string a,.string b,.bool c]=some [.string a.data.toList,.string b.data.toList,.bool c]:=by
   unfold Program.keyLits;simp [hu,h.cells,n1,n2,n3,o1,o2,o3,c1,c2,c3,Qk u1 ha,Qk u2 hb,Sr u3,List.mapM_cons]
  simp only [keyOf,hu,h.kt,Value.formed,h.cells,hm];simp [Value.cells,e]
 inj:=by
  rintro ⟨a,b,c⟩ ⟨a',b',c'⟩ h;simp at h;obtain ⟨rfl,rfl,rfl⟩:=h;rfl
 inv:=by
  intro v l hv;obtain ⟨f1,f2,f3,hu,n1,n2,n3,o1,o2,o3,u1,u2,u3,c1,c2,c3⟩:=h.fs;obtain ⟨m,hm⟩:∃ m,P.types.size=m+1:=⟨P.types.size-1,by have:=h.size;omega⟩;simp only [keyOf,hu] at hv
  split at hv
  .rename_i hf;simp only [Bool.and_eq_true] at hf;cases v <;> simp [Value.formed,hu] at hf
   rename_i xs;have h3:=hf.2;rw [h.cells] at h3;obtain ⟨l0⟩:=xs
   match l0,h3 with
   | [x,y,z],_=>
    simp only [hm,Value.cells] at hv
    unfold Program.keyLits at hv
    simp [hu,h.cells,n1,n2,n3,o1,o2,o3,c1,c2,c3,List.mapM_cons] at hv
    cases e1:P.keyLits (m+1) f1.type [x] with
    | none=>rw [e1] at hv;cases hv
    | some l1=>
     cases e2:P.keyLits (m+1) f2.type [y] with
     | none=>rw [e1,e2] at hv;cases hv
     | some l2=>
      cases e3:P.keyLits (m+1) f3.type [z] with
      | none=>rw [e1,e2,e3] at hv;cases hv
      | some l3=>
       rw [e1,e2,e3] at hv
       obtain ⟨a,ha,h1,rfl⟩:=Np u1 e1
       obtain ⟨b,hb,h2,rfl⟩:=Np u2 e2
       obtain ⟨c,h3,rfl⟩:=keyLits_bool' u3 e3
       injection h1 with h1
       injection h2 with h2
       injection h3 with h3
       subst h1 h2 h3
       injection hv with hv
       exact ⟨(a,b,c),⟨ha,hb⟩,rfl,hv.symm⟩
  .cases hv
 law:=h.law
end
end Go.Eng
namespace Go.Eng
open Go.RowKit
variable {rr:Option Nat}
section
variable {P:Program} {n:Nat} {σ:Nat->Value} {w w0:World} {ty t:TypeId} {K:Value->World->Prop} {x:Operand} {b pos:Nat} {s:ByteArray} {S:Nat->Prop} {L:List Ch}
theorem ErgS (H:Hp S w0 w L) (hT:P.underlying t=some .string) (hx:ev n σ x= .string s) (k:∀ b w',Hp S w0 w' (cR b (.stringIter s 0)::L)->Ext w w'->K (.pointer (some ⟨b,0,none⟩)) w'):fU P (ev n σ) w (.range t x) ty K:=
 Gf hT hx λw' hA=>k _ w' (H.raw hA) hA.ext
theorem EnxS (H:Hp S w0 w L) (i:Nat) (hi:L[i]?=some (cR b (.stringIter s pos))) (hx:ev n σ x= .pointer (some ⟨b,0,none⟩))
  (k0:¬ pos<s.size->K (.tuple #[.bool false]) w) (k1:pos<s.size->∀ w',Hp S w0 w' (L.set i (cR b (.stringIter s (pos+(Utf8.decode s pos).2))))->K (.tuple #[.bool true,.int .i64 ((pos:Nat):Int),.int .i32 (((Utf8.decode s pos).1:Nat):Int)]) w'):fU P (ev n σ) w (.next x true) ty K:=
 BN hx (H.at i hi) k0 λh w' hp=>k1 h w' (H.upd i hi (S':=λz=>z=b) ((Mod.refl _ w).pt hp (.inl rfl)) (λ_ h=>h) hp.new λz hz=>⟨by rw [hp.size];exact H.lt i hi hz,.inl hz⟩)
end
theorem wL (s:ByteArray) (p:Nat):(ch s p<128/\(Utf8.decode s p).1=ch s p/\(Utf8.decode s p).2=1)\/(128<=ch s p/\128<=(Utf8.decode s p).1/\1<=(Utf8.decode s p).2):=by
 have h0:(s.get! (p+0)).toNat=ch s p:=rfl;unfold Utf8.decode;simp only [h0]
 by_cases h:ch s p<128
 .left;rw [if_pos h];exact ⟨h,rfl,rfl⟩
 .right;refine ⟨by omega,?_⟩;rw [if_neg h];have hr:128<=Utf8.runeError:=by decide
  split
  .split
   .exact ⟨by assumption,Nat.le_of_ble_eq_true rfl⟩
   .exact ⟨hr,by decide⟩
  split
  .split
   .rename_i hc;simp only [Bool.and_eq_true,decide_eq_true_eq,ge_iff_le] at hc;exact ⟨by omega,Nat.le_of_ble_eq_true rfl⟩
   .exact ⟨hr,by decide⟩
  split
  .split
   .rename_i hc;simp only [Bool.and_eq_true,decide_eq_true_eq,ge_iff_le] at hc;exact ⟨by omega,Nat.le_of_ble_eq_true rfl⟩
   .exact ⟨hr,by decide⟩
  .exact ⟨hr,by decide⟩
section
variable {P:Program} {ops:Array Oper} {Q:Exit->Act->World->Prop} {rest:List Oper} {n:Nat} {σ:Nat->Value} {ds:List Deferred} {w:World} {ty:TypeId} {pos:String} {af:Array Edge} {d:Nat}
theorem clv {x:Operand} {f:FuncId} {args:Array Operand} {ats:Array TypeId} {vs cap:List Value} {R:Ending->World->Prop} (c:CF P f) (hx:ev n σ x= .func (.func f) #[] cap.toArray) (hc:Calls P f (vs++cap).toArray w R) (hv:args.toList.map (ev n σ)=vs)
  (k:∀ e w',R e w'->∃ v,e= .returned v/\WL rr P ops Q rest (F n (gT σ d v) ds) w'):WL rr P ops Q (⟨some d,.call { callee:=.value x,args:=args,argTypes:=ats },ty,pos,af,none⟩::rest) (F n σ ds) w:=
 st_c (aT (vs++cap) c hx (by simp [hv])) hc k
theorem clv0 {x:Operand} {f:FuncId} {args:Array Operand} {ats:Array TypeId} {vs:List Value} {R:Ending->World->Prop} (c:CF P f) (hx:ev n σ x= .func (.func f) #[] #[]) (hc:Calls P f vs.toArray w R) (hv:args.toList.map (ev n σ)=vs)
  (k:∀ e w',R e w'->∃ v,e= .returned v/\WL rr P ops Q rest (F n (gT σ d v) ds) w'):WL rr P ops Q (⟨some d,.call { callee:=.value x,args:=args,argTypes:=ats },ty,pos,af,none⟩::rest) (F n σ ds) w:=
 clv (cap:=[]) c hx (by rw [List.append_nil];exact hc) hv k
end
end Go.Eng
namespace Go.Eng
open Go.RowKit
variable {rr:Option Nat}
section
variable {P:Program} {Q:Exit->Act->World->Prop} {w:World}
theorem scopeS {c R:Code} {l:Nat} {a:Act} (hf:findLabel c l=some R) (h:∀ Q':Exit->Act->World->Prop,(∀ a w,Q .normal a w->Q' .normal a w)->(∀ a w,Q .ret a w->Q' .ret a w)->(∀ id a w,Q (.exit id) a w->Q' (.exit id) a w)->c.wq rr P Q' a w):(Code.scope c).wq rr P Q a w:=
 O4 (n:=0) (ds:=[]) (α:=Unit) (λ_=>[]) (λ_ _=>False) (λ_=>0) hf (h _ (λ_ _ h=>h) (λ_ _ h=>h) (λ_ _ _ h=>h)) λ_ _ _ h=>h.elim
theorem Pi {l:Nat} {a:Act} (h:Q .normal a w):(Code.label l).wq rr P Q a w:=wpIn_label h
end
end Go.Eng
