/- A part of the engine: steps over the model. Over any program. -/
import Derived.Test.YtljfgmedbjlkaaaGreatEA
namespace Go.Eng
open Go.RowKit
variable {rr:Option Nat}
section
variable {P:Program} {n:Nat} {σ:Nat->Value} {w:World} {ty:TypeId}
theorem aT {g:Operand} {f:FuncId} {first captured:Array Value} {args:Array Operand} {ats:Array TypeId} (vs:List Value) (hf:CF P f) (hg:ev n σ g= .func (.func f) first captured) (hv:first.toList++args.toList.map (ev n σ)++captured.toList=vs) :
    iP P (ev n σ) w (.call { callee:=.value g,args:=args,argTypes:=ats }) ty f vs.toArray:=by
  have hv':vs.toArray=first++args.map (ev n σ)++captured:=by subst hv;simp
  rw [hv'];intro _ _ _ _;have h:=hf (first++args.map (ev n σ)++captured) w;simp only [Array.append_assoc] at h;simp [execOp,resolve,hg,Deferred.ofValue,invoke,h]
end
section
variable {F:Fence} {n:Nat} {P:Program} {Q:Exit->Act->World->Prop} {a:Act} {w:World}
theorem tQ {c:Code} (I:Nat->Act->World->Prop) (j:Nat) (h0:I j a w)
    (round:∀ j a w,I j a w->c.wpIn F n P (Exit.then (λa' w'=>∃ j',j'<j/\I j' a' w') Q) a w):(Code.loop c).wpIn F n P Q a w:=by
  intro b k cs hro hb hr
  have key:∀ j a w,I j a w->∃ e a' w',Q e a' w'/\ArrivesIn (Machine.fenced P F) P (lone (b.atR a (.code c::.inLoop c::k)) cs w) b k cs e a' w':=by
    intro j
    induction j using Nat.strongRecOn with
    | _ j ih=>
      intro a w hI
      obtain ⟨e,a₁,w₁,hq,harr⟩:=round j a w hI b (.inLoop c::k) cs hro hb hr
      cases e with
      | normal=>
        obtain ⟨j',hlt,hI'⟩:=hq
        obtain ⟨e₂,a₂,w₂,hq₂,harr₂⟩:=ih j' hlt a₁ w₁ hI'
        exact ⟨e₂,a₂,w₂,hq₂,.of_steps (StepsIn.trans harr (.one (fenced_calm hb hr rfl) stepR_inLoop)) harr₂⟩
      | exit id=>exact ⟨_,a₁,w₁,hq,.pass (x:=.inLoop c) rfl (λ_ _=>.inl (by simp)) harr⟩
      | goto l=>exact ⟨_,a₁,w₁,hq,.pass (x:=.inLoop c) rfl (λ_ _=>.inl (by simp)) harr⟩
      | ret=>exact ⟨_,a₁,w₁,hq,.pass (x:=.inLoop c) rfl (λ_ _=>.inl (by simp)) harr⟩
      | panic ch=>exact ⟨_,a₁,w₁,hq,.pass (x:=.inLoop c) rfl (λ_ _=>.inl (by simp)) harr⟩
      | outgrown=>exact ⟨_,a₁,w₁,hq,.pass (x:=.inLoop c) rfl (λ_ _=>.inl (by simp)) harr⟩
  obtain ⟨e,a',w',hq,harr⟩:=key j a w h0;exact ⟨e,a',w',hq,.of_steps (.one (fenced_calm hb hr rfl) stepR_loop) harr⟩
theorem ww {b:Frame} {k:List Item} {cs:List Frame} {c:Code}:step P (lone (b.atR a (.code (.scope c)::k)) cs w)= .next (lone (b.atR a (.code c::.inScope c::k)) cs w):=
  step_lone_go (by simp [stepG,stepG.exec,Frame.atR])
theorem kK {b:Frame} {k:List Item} {cs:List Frame} {c:Code}:step P (lone (b.atR a (.inScope c::k)) cs w)= .next (lone (b.atR a k) cs w):=
  step_lone_go (by simp [stepG,stepG.exec,Frame.atR])
end
section
variable {P:Program} {Q:Exit->Act->World->Prop} {n:Nat} {σ:Nat->Value} {ds:List Deferred} {w:World}
theorem cnd {x y:Code} {c:Operand} {p:Prop} [Decidable p] (hc:ev n σ c= .bool (decide p)) (h1:p->x.wq rr P Q (F n σ ds) w) (h2:¬ p->y.wq rr P Q (F n σ ds) w):(Code.cond c x y).wq rr P Q (F n σ ds) w:=by
  by_cases hp:p
  . exact wpIn_cond_true (by rw [aP,hc,decide_eq_true hp]) (h1 hp)
  . exact wpIn_cond_false (by rw [aP,hc,decide_eq_false hp]) (h2 hp)
theorem cndT {x y:Code} {c:Operand} (hc:ev n σ c= .bool true) (h:x.wq rr P Q (F n σ ds) w):(Code.cond c x y).wq rr P Q (F n σ ds) w:=wpIn_cond_true (by rw [aP,hc]) h
theorem cndF {x y:Code} {c:Operand} (hc:ev n σ c= .bool false) (h:y.wq rr P Q (F n σ ds) w):(Code.cond c x y).wq rr P Q (F n σ ds) w:=wpIn_cond_false (by rw [aP,hc]) h
theorem cndB {x y:Code} {c:Operand} {b:Bool} (hc:ev n σ c= .bool b) (h1:b=true->x.wq rr P Q (F n σ ds) w) (h2:b=false->y.wq rr P Q (F n σ ds) w):(Code.cond c x y).wq rr P Q (F n σ ds) w:=by
  cases b
  . exact cndF hc (h2 rfl)
  . exact cndT hc (h1 rfl)
theorem skip {a:Act} (h:Q .normal a w):Code.skip.wq rr P Q a w:=wpIn_skip h
theorem exit {id:Nat} {a:Act} (h:Q (.exit id) a w):(Code.exit id).wq rr P Q a w:=wpIn_exit h
theorem ret {a:Act} (h:Q .ret a w):Code.ret.wq rr P Q a w:=wpIn_ret h
theorem loop {c:Code} (I:Nat->(Nat->Value)->World->Prop) (m:Nat) (h0:I m σ w)
    (round:∀ m σ w,I m σ w->c.wq rr P (Exit.then (λa' w'=>∃ m' σ',m'<m/\a'=F n σ' ds/\I m' σ' w') Q) (F n σ ds) w):(Code.loop c).wq rr P Q (F n σ ds) w:=by
  refine tQ (λm a w=>∃ σ,a=F n σ ds/\I m σ w) m ⟨σ,rfl,h0⟩ ?_;rintro m a w ⟨σ,rfl,hI⟩;refine wpIn_mono (round m σ w hI) λe a' w' hq=>?_;cases e <;> try exact hq
  obtain ⟨m',σ',hlt,rfl,hI'⟩:=hq;exact ⟨m',hlt,σ',rfl,hI'⟩
end
section
variable {P:Program} {ops:Array Oper} {Q:Exit->Act->World->Prop} {S:World->Prop}
inductive Sched where
  | done
  | one (i:Nat) (s:Sched)
  | two (i:Nat) (s:Sched) (j:Nat) (t:Sched)
  | three (i:Nat) (s:Sched) (j:Nat) (t:Sched) (k:Nat) (u:Sched)
  | four (i:Nat) (s:Sched) (j:Nat) (t:Sched) (k:Nat) (u:Sched) (l:Nat) (v:Sched)
def qX (P:Program) (ops:Array Oper) (Q:Exit->Act->World->Prop) (Po:Nat->World->World->Prop):Nat->Array Bool->Act->World->Prop
  | 0,listed,a,w=>Region.ready .any ops listed=[]/\Q .normal a w
  | fuel+1,listed,a,w=>
    (Region.ready .any ops listed=[]->Q .normal a w)/\
    ∀ i ∈ Region.ready .any ops listed,wpOp P ops Q i (λa' w'=>Po i w w'/\qX P ops Q Po fuel (listed.setIfInBounds i true) a' w') a w
def reach (ops:Array Oper) (i:Nat):Nat->Nat->Bool
  | 0,j=>(ops[j]?).any λo=>o.after.any λe=>Region.binds .any e && e.on == i
  | n+1,j=>(ops[j]?).any λo=>(o.after.any λe=>Region.binds .any e && e.on == i) || (o.after.any λe=>Region.binds .any e && reach ops i n e.on)
def Closed (ops:Array Oper) (listed:Array Bool):Prop:=∀ p o,ops[p]?=some o->listed.getD p false=true->∀ e ∈ o.after,Region.binds .any e=true->listed.getD e.on false=true
theorem jP {listed:Array Bool} (hc:Closed ops listed) {i:Nat}:∀ (n j:Nat) (o:Oper),ops[j]?=some o->(∀ e ∈ o.after,Region.binds .any e=true->listed.getD e.on false=true)->reach ops i n j=true->listed.getD i false=true
  | 0,j,o,hj,hall,h=>by
    simp only [reach,hj,Option.any_some] at h;rw [Array.any_eq_true'] at h;obtain ⟨e,he,h⟩:=h;rw [Bool.and_eq_true] at h;have:e.on=i:=by simpa using h.2
    rw [← this];exact hall e he h.1
  | n+1,j,o,hj,hall,h=>by
    simp only [reach,hj,Option.any_some,Bool.or_eq_true] at h
    rcases h with h | h
    . rw [Array.any_eq_true'] at h
      obtain ⟨e,he,h⟩:=h
      rw [Bool.and_eq_true] at h
      have:e.on=i:=by simpa using h.2
      rw [← this];exact hall e he h.1
    . rw [Array.any_eq_true'] at h
      obtain ⟨e,he,h⟩:=h
      rw [Bool.and_eq_true] at h
      have hl:=hall e he h.1
      cases ho:ops[e.on]? with
      | none=>
        have h2:=h.2
        cases n <;> simp [reach,ho] at h2
      | some o'=>exact jP hc n e.on o' ho (hc e.on o' ho hl) h.2
theorem Closed.set {listed:Array Bool} (hc:Closed ops listed) {j:Nat} (hj:j ∈ Region.ready .any ops listed):Closed ops (listed.setIfInBounds j true):=by
  obtain ⟨hjun,oj,hoj,hall⟩:=mem_ready.1 hj;intro p o hp hl e he hb
  have key:listed.getD e.on false=true:=by
    by_cases hpj:p=j
    . subst hpj;rw [hoj] at hp;injection hp with hp;subst hp;exact hall e he hb
    . rw [getD_set_ne false (Ne.symm hpj)] at hl
      exact hc p o hp hl e he hb
  exact getD_set_true key
theorem Closed.none (n:Nat):Closed ops (Array.replicate n false):=by
  intro p o _ hl;rw [Array.getD_eq_getD_getElem?,Array.getElem?_replicate] at hl
  split at hl <;> cases hl
theorem nH {Po:Nat->World->World->Prop} {i:Nat} {oi:Oper} {v:Value} (hi:ops[i]?=some oi) (hsel:∀ (j:Nat) (o:Oper) cs b,ops[j]?=some o->o.op≠.select cs b)
    (hQ:∀ c a w,Q (.panic c) (a.put oi.dst v) w->Q (.panic c) a w)
    (hS:∀ j oj,ops[j]?=some oj->j≠i->reach ops i 7 j=false->∀ w w',S w->Po j w w'->S w') (hPo:∀ w,Po i w w) :
    ∀ (fuel:Nat) (listed:Array Bool) (a:Act) (w:World),Closed ops listed->
      (∀ j oj,ops[j]?=some oj->j≠i->listed.getD j true=false->(∀ e ∈ oj.after,Region.binds .any e=true->e.on≠i)->oi.apart ops oj=true)->
      i ∈ Region.ready .any ops listed->YieldsIf P ops S oi v a->S w->
      qX P ops Q Po fuel (listed.setIfInBounds i true) (a.put oi.dst v) w->qX P ops Q Po (fuel+1) listed a w:=by
  intro fuel
  induction fuel with
  | zero=>
    intro listed a w _ _ hr hy hSw H
    refine ⟨λh=>(by rw [h] at hr;cases hr),λj hj=>?_⟩
    by_cases hji:j=i
    . subst hji;exact hy.wpOp hi hSw ⟨hPo w,H⟩
    . have:=ready_mono hj hji
      rw [H.1] at this
      cases this
  | succ fuel ih=>
    intro listed a w hcl hfree hr hy hSw H
    refine ⟨λh=>(by rw [h] at hr;cases hr),λj hj=>?_⟩
    by_cases hji:j=i
    . subst hji;exact hy.wpOp hi hSw ⟨hPo w,H⟩
    . have h1:=H.2 j (ready_mono hj hji)
      obtain ⟨hjun,oj,hoj,hall⟩:=mem_ready.1 hj
      have hiun:listed.getD i false=true->False:=λh1=>by
        have h0:=(mem_ready.1 hr).1
        rcases Nat.lt_or_ge i listed.size with h' | h'
        . simp [h'] at h0 h1;rw [h0] at h1;cases h1
        . simp [Array.getElem?_eq_none h'] at h1
      have hnot:∀ e ∈ oj.after,Region.binds .any e=true->e.on≠i:=λe he hb heq=>hiun (heq▸hall e he hb)
      have hrn:reach ops i 7 j=false:=by
        cases hb:reach ops i 7 j
        . rfl
        . exact absurd (jP hcl 7 j oj hoj hall hb) (λh=>hiun h)
      have h2:=wpOp_putIf hoj (hfree j oj hoj hji hjun hnot) (λcs b=>hsel i oi cs b hi) (λcs b=>hsel j oj cs b hoj) hQ hy h1
      have hfree':∀ k ok,ops[k]?=some ok->k≠i->(listed.setIfInBounds j true).getD k true=false->
          (∀ e ∈ ok.after,Region.binds .any e=true->e.on≠i)->oi.apart ops ok=true:=λk ok hk hki hun hno=>by
        refine hfree k ok hk hki ?_ hno
        by_cases hjk:j=k
        . subst hjk;exact hjun
        . rw [getD_set_ne true hjk] at hun;exact hun
      refine wpOp_mono (λa' w' h3=>⟨h3.2.1,?_⟩) h2
      refine ih (listed.setIfInBounds j true) a' w' (hcl.set hj) hfree' (ready_mono hr (Ne.symm hji)) h3.1 (hS j oj hoj hji hrn w w' hSw h3.2.1) ?_
      rw [Array.setIfInBounds_comm _ _ hji]
      exact h3.2.2
def bJ (ops:Array Oper) (L:List Nat) (j:Nat):Bool:=L.any λl=>l != j && !(reach ops l 7 j)
def Sched.free (ops:Array Oper) (L qs:List Nat):Sched->Bool
  | .done=>true
  | .one i s=>(if qs.contains i then !(L.contains i) else !(bJ ops L i)) && s.free ops L qs
  | .two i s j t=>!(bJ ops L i) && s.free ops L qs && !(bJ ops L j) && t.free ops L qs
  | .three i s j t k u=>!(bJ ops L i) && s.free ops L qs && !(bJ ops L j) && t.free ops L qs && !(bJ ops L k) && u.free ops L qs
  | .four i s j t k u l v=>!(bJ ops L i) && s.free ops L qs && !(bJ ops L j) && t.free ops L qs && !(bJ ops L k) && u.free ops L qs && !(bJ ops L l) && v.free ops L qs
def Sched.ok (ops:Array Oper) (L qs:List Nat):Sched->Array Bool->Bool
  | .done,listed=>Region.ready .any ops listed == []
  | .one i s,listed=>
    (if qs.contains i then Region.free .any ops listed i && (Region.ready .any ops listed).contains i
     else Region.ready .any ops listed == [i] && (bJ ops L i || s.free ops L qs)) &&
    s.ok ops L qs (listed.setIfInBounds i true)
  | .two i s j t,listed=>
    Region.ready .any ops listed == [i,j] && !(qs.contains i) && !(qs.contains j) && (bJ ops L i || s.free ops L qs) && (bJ ops L j || t.free ops L qs) &&
    s.ok ops L qs (listed.setIfInBounds i true) && t.ok ops L qs (listed.setIfInBounds j true)
  | .three i s j t k u,listed=>
    Region.ready .any ops listed == [i,j,k] && !(qs.contains i) && !(qs.contains j) && !(qs.contains k) && (bJ ops L i || s.free ops L qs) && (bJ ops L j || t.free ops L qs) && (bJ ops L k || u.free ops L qs) &&
    s.ok ops L qs (listed.setIfInBounds i true) && t.ok ops L qs (listed.setIfInBounds j true) && u.ok ops L qs (listed.setIfInBounds k true)
  | .four i s j t k u l v,listed=>
    Region.ready .any ops listed == [i,j,k,l] && !(qs.contains i) && !(qs.contains j) && !(qs.contains k) && !(qs.contains l) && (bJ ops L i || s.free ops L qs) && (bJ ops L j || t.free ops L qs) && (bJ ops L k || u.free ops L qs) && (bJ ops L l || v.free ops L qs) &&
    s.ok ops L qs (listed.setIfInBounds i true) && t.ok ops L qs (listed.setIfInBounds j true) && u.ok ops L qs (listed.setIfInBounds k true) && v.ok ops L qs (listed.setIfInBounds l true)
def uV (P:Program) (ops:Array Oper) (Q:Exit->Act->World->Prop) (S:World->Prop) (L:List Nat) (i:Nat) (K:Act->World->Prop) (a:Act) (w:World):Prop:=
  wpOp P ops Q i (λa' w'=>(bJ ops L i=true->S w')/\K a' w') a w
def SG (P:Program) (ops:Array Oper) (S:World->Prop) (L:List Nat) (i:Nat) (K:Act->Prop) (a:Act):Prop:=
  ∃ o v,ops[i]?=some o/\YieldsIf P ops (if L.contains i then S else λ_=>True) o v a/\K (a.put o.dst v)
def gQ (P:Program) (ops:Array Oper) (Q:Exit->Act->World->Prop) (S:World->Prop) (L qs:List Nat):Sched->Act->World->Prop
  | .done,a,w=>Q .normal a w
  | .one i s,a,w=>if qs.contains i then SG P ops S L i (λa'=>gQ P ops Q S L qs s a' w) a else uV P ops Q S L i (gQ P ops Q S L qs s) a w
  | .two i s j t,a,w=>uV P ops Q S L i (gQ P ops Q S L qs s) a w/\uV P ops Q S L j (gQ P ops Q S L qs t) a w
  | .three i s j t k u,a,w=>uV P ops Q S L i (gQ P ops Q S L qs s) a w/\uV P ops Q S L j (gQ P ops Q S L qs t) a w/\uV P ops Q S L k (gQ P ops Q S L qs u) a w
  | .four i s j t k u l v,a,w=>uV P ops Q S L i (gQ P ops Q S L qs s) a w/\uV P ops Q S L j (gQ P ops Q S L qs t) a w/\uV P ops Q S L k (gQ P ops Q S L qs u) a w/\uV P ops Q S L l (gQ P ops Q S L qs v) a w
theorem Jy {L:List Nat} {i j:Nat} (hL:i ∈ L) (hji:j≠i) (hno:reach ops i 7 j=false):bJ ops L j=true:=by
  unfold bJ;rw [List.any_eq_true];refine ⟨i,hL,?_⟩;have h1:(i != j)=true:=by simpa using Ne.symm hji
  rw [h1,hno];rfl
def Sched.len:Sched->Nat
  | .done=>0
  | .one _ s=>s.len+1
  | .two _ s _ t=>max s.len t.len+1
  | .three _ s _ t _ u=>max (max s.len t.len) u.len+1
  | .four _ s _ t _ u _ v=>max (max s.len t.len) (max u.len v.len)+1
def Po (_P:Program) (ops:Array Oper) (S:World->Prop) (L qs:List Nat) (i:Nat) (w w':World):Prop:=bif qs.contains i then w'=w else (bJ ops L i=true->S w')
theorem gF {L qs:List Nat} {i:Nat} {K K':Act->World->Prop} {a:Act} {w:World} (hq:qs.contains i=false) (h:uV P ops Q S L i K a w) (hk:∀ a' w',(bJ ops L i=true->S w')->K a' w'->K' a' w') :
    wpOp P ops Q i (λa' w'=>Po P ops S L qs i w w'/\K' a' w') a w:=
  wpOp_mono (λa' w' ⟨h1,h2⟩=>⟨by unfold Po;rw [hq];exact h1,hk a' w' h1 h2⟩) h
theorem bS {L qs:List Nat} (hLq:∀ l ∈ L,qs.contains l=true) (hsel:Region.noSelect ops=true) (hQ:∀ c (a:Act) w d v,Q (.panic c) (a.put d v) w->Q (.panic c) a w) :
    ∀ (s:Sched) (fuel:Nat) (listed:Array Bool) (a:Act) (w:World),Closed ops listed->s.len<=fuel->s.ok ops L qs listed=true->(s.free ops L qs=false->S w)->gQ P ops Q S L qs s a w->qX P ops Q (Po P ops S L qs) fuel listed a w
  | .done,fuel,listed,a,w,_,_,hok,_,h=>by
    have hr:Region.ready .any ops listed=[]:=by simpa [Sched.ok] using hok
    cases fuel with
    | zero=>exact ⟨hr,h⟩
    | succ f=>exact ⟨λ_=>h,by rw [hr];simp⟩
  | .one i s,fuel,listed,a,w,hcl,hlen,hok,hS,h=>by
    obtain ⟨f,rfl⟩:∃ f,fuel=f+1:=⟨fuel-1,by simp only [Sched.len] at hlen;omega⟩;have hlen':s.len<=f:=by simp only [Sched.len] at hlen;omega
    simp only [Sched.ok,Bool.and_eq_true] at hok;obtain ⟨hk,hok'⟩:=hok
    by_cases hq:qs.contains i=true
    . rw [if_pos hq] at hk
      simp only [gQ,hq,if_true] at h
      rw [Bool.and_eq_true] at hk
      obtain ⟨hfr,hrd⟩:=hk
      obtain ⟨o,v,ho,hy,hK⟩:=h
      have hPo:∀ w,Po P ops S L qs i w w:=λw=>by unfold Po;rw [hq];rfl
      have hSs:s.free ops L qs=false->S w:=λhf=>hS (by simp [Sched.free,hf])
      have ih:=bS hLq hsel hQ s f (listed.setIfInBounds i true) (a.put o.dst v) w (hcl.set (by simpa using hrd)) hlen' hok' hSs hK
      by_cases hl:L.contains i=true
      . rw [if_pos hl] at hy
        have hl':i ∈ L:=by simpa using hl
        have hq':i ∈ qs:=by simpa using hq
        have hSw:S w:=hS (by simp [Sched.free,hl',hq'])
        refine nH ho (Region.noSelect_spec hsel) (λc a w=>hQ c a w _ _) (S:=S) (λj oj hj hji hno w w' hw hp=>?_) hPo f listed a w hcl (Region.free_spec ho hfr) (by simpa using hrd) hy hSw ih
        unfold Po at hp
        by_cases hqj:qs.contains j=true
        . rw [hqj] at hp;simp only [cond_true] at hp;rw [hp];exact hw
        . rw [Bool.eq_false_iff.2 hqj] at hp;exact hp (Jy hl' hji hno)
      . rw [if_neg hl] at hy
        exact nH ho (Region.noSelect_spec hsel) (λc a w=>hQ c a w _ _) (S:=λ_=>True) (λ_ _ _ _ _ _ _ _ _=>trivial) hPo f listed a w hcl (Region.free_spec ho hfr) (by simpa using hrd) hy trivial ih
    . rw [if_neg hq] at hk
      simp only [gQ,hq] at h
      simp only [Bool.false_eq_true,if_false] at h
      rw [Bool.and_eq_true,Bool.or_eq_true] at hk
      obtain ⟨hrd,hnf⟩:=hk
      have hrd':Region.ready .any ops listed=[i]:=by simpa using hrd
      refine ⟨λh0=>(by rw [hrd'] at h0;cases h0),λj hj=>?_⟩
      rw [hrd'] at hj
      obtain rfl:j=i:=by simpa using hj
      refine gF (Bool.eq_false_iff.2 hq) h λa' w' hn hK=>bS hLq hsel hQ s f _ a' w' (hcl.set (by rw [hrd'];simp)) hlen' hok' (λhf=>?_) hK
      rcases hnf with hnf | hnf
      . exact hn hnf
      . rw [hnf] at hf;cases hf
  | .two i s j t,fuel,listed,a,w,hcl,hlen,hok,hS,h=>by
    obtain ⟨f,rfl⟩:∃ f,fuel=f+1:=⟨fuel-1,by simp only [Sched.len] at hlen;omega⟩;have hlen1:s.len<=f:=by simp only [Sched.len] at hlen;omega
    have hlen2:t.len<=f:=by simp only [Sched.len] at hlen;omega
    simp only [Sched.ok,Bool.and_eq_true,Bool.or_eq_true,Bool.not_eq_true'] at hok;obtain ⟨⟨⟨⟨⟨⟨hrd,hqi⟩,hqj⟩,hn1⟩,hn2⟩,hok1⟩,hok2⟩:=hok;obtain ⟨h1,h2⟩:=h;have hrd':Region.ready .any ops listed=[i,j]:=by simpa using hrd
    refine ⟨λh0=>(by rw [hrd'] at h0;cases h0),λk hk=>?_⟩;rw [hrd'] at hk
    rcases List.mem_cons.1 hk with rfl | hk
    . refine gF hqi h1 λa' w' hn hK=>bS hLq hsel hQ s f _ a' w' (hcl.set (by rw [hrd'];simp)) hlen1 hok1 (λhf=>?_) hK
      rcases hn1 with hnf | hnf
      . exact hn hnf
      . rw [hnf] at hf;cases hf
    . obtain rfl:k=j:=by simpa using hk
      refine gF hqj h2 λa' w' hn hK=>bS hLq hsel hQ t f _ a' w' (hcl.set (by rw [hrd'];simp)) hlen2 hok2 (λhf=>?_) hK
      rcases hn2 with hnf | hnf
      . exact hn hnf
      . rw [hnf] at hf;cases hf
  | .three i s j t k u,fuel,listed,a,w,hcl,hlen,hok,hS,h=>by
    obtain ⟨f,rfl⟩:∃ f,fuel=f+1:=⟨fuel-1,by simp only [Sched.len] at hlen;omega⟩;have hlen1:s.len<=f:=by simp only [Sched.len] at hlen;omega
    have hlen2:t.len<=f:=by simp only [Sched.len] at hlen;omega
    have hlen3:u.len<=f:=by simp only [Sched.len] at hlen;omega
    simp only [Sched.ok,Bool.and_eq_true,Bool.or_eq_true,Bool.not_eq_true'] at hok;obtain ⟨⟨⟨⟨⟨⟨⟨⟨⟨hrd,hq1⟩,hq2⟩,hq3⟩,hn1⟩,hn2⟩,hn3⟩,hok1⟩,hok2⟩,hok3⟩:=hok;obtain ⟨h1,h2,h3⟩:=h;have hrd':Region.ready .any ops listed=[i,j,k]:=by simpa using hrd
    refine ⟨λh0=>(by rw [hrd'] at h0;cases h0),λz hz=>?_⟩;rw [hrd'] at hz;have hz:z=i\/z=j\/z=k:=by simpa using hz
    rcases hz with rfl | rfl | rfl
    . refine gF hq1 h1 λa' w' hn hK=>bS hLq hsel hQ s f _ a' w' (hcl.set (by rw [hrd'];simp)) hlen1 hok1 (λhf=>?_) hK
      rcases hn1 with hnf | hnf
      . exact hn hnf
      . rw [hnf] at hf;cases hf
    . refine gF hq2 h2 λa' w' hn hK=>bS hLq hsel hQ t f _ a' w' (hcl.set (by rw [hrd'];simp)) hlen2 hok2 (λhf=>?_) hK
      rcases hn2 with hnf | hnf
      . exact hn hnf
      . rw [hnf] at hf;cases hf
    . refine gF hq3 h3 λa' w' hn hK=>bS hLq hsel hQ u f _ a' w' (hcl.set (by rw [hrd'];simp)) hlen3 hok3 (λhf=>?_) hK
      rcases hn3 with hnf | hnf
      . exact hn hnf
      . rw [hnf] at hf;cases hf
  | .four i s j t k u l v,fuel,listed,a,w,hcl,hlen,hok,hS,h=>by
    obtain ⟨f,rfl⟩:∃ f,fuel=f+1:=⟨fuel-1,by simp only [Sched.len] at hlen;omega⟩;have hlen1:s.len<=f:=by simp only [Sched.len] at hlen;omega
    have hlen2:t.len<=f:=by simp only [Sched.len] at hlen;omega
    have hlen3:u.len<=f:=by simp only [Sched.len] at hlen;omega
    have hlen4:v.len<=f:=by simp only [Sched.len] at hlen;omega
    simp only [Sched.ok,Bool.and_eq_true,Bool.or_eq_true,Bool.not_eq_true'] at hok;obtain ⟨⟨⟨⟨⟨⟨⟨⟨⟨⟨⟨⟨hrd,hq1⟩,hq2⟩,hq3⟩,hq4⟩,hn1⟩,hn2⟩,hn3⟩,hn4⟩,hok1⟩,hok2⟩,hok3⟩,hok4⟩:=hok;obtain ⟨h1,h2,h3,h4⟩:=h;have hrd':Region.ready .any ops listed=[i,j,k,l]:=by simpa using hrd
    refine ⟨λh0=>(by rw [hrd'] at h0;cases h0),λz hz=>?_⟩;rw [hrd'] at hz;have hz:z=i\/z=j\/z=k\/z=l:=by simpa using hz
    rcases hz with rfl | rfl | rfl | rfl
    . refine gF hq1 h1 λa' w' hn hK=>bS hLq hsel hQ s f _ a' w' (hcl.set (by rw [hrd'];simp)) hlen1 hok1 (λhf=>?_) hK
      rcases hn1 with hnf | hnf
      . exact hn hnf
      . rw [hnf] at hf;cases hf
    . refine gF hq2 h2 λa' w' hn hK=>bS hLq hsel hQ t f _ a' w' (hcl.set (by rw [hrd'];simp)) hlen2 hok2 (λhf=>?_) hK
      rcases hn2 with hnf | hnf
      . exact hn hnf
      . rw [hnf] at hf;cases hf
    . refine gF hq3 h3 λa' w' hn hK=>bS hLq hsel hQ u f _ a' w' (hcl.set (by rw [hrd'];simp)) hlen3 hok3 (λhf=>?_) hK
      rcases hn3 with hnf | hnf
      . exact hn hnf
      . rw [hnf] at hf;cases hf
    . refine gF hq4 h4 λa' w' hn hK=>bS hLq hsel hQ v f _ a' w' (hcl.set (by rw [hrd'];simp)) hlen4 hok4 (λhf=>?_) hK
      rcases hn4 with hnf | hnf
      . exact hn hnf
      . rw [hnf] at hf;cases hf
def p8 (op:Op):Bool:=match op with
  | .defer _=>false
  | _=>true
def NP (Q:Exit->Act->World->Prop):Exit->Act->World->Prop
  | .panic _,_,_=>False
  | .outgrown,_,_=>False
  | e,a,w=>Q e a w
theorem I7 {o:Oper} {a:Act} {w:World} {K:Act->World->Prop} (hd:p8 o.op=true) (h:o.wp P a w K Q):o.wpIn (zu rr) 0 P a w K Q:=by
  refine ⟨λf _=>kw rr f,?_⟩;unfold Oper.wp at h
  have hs:o.semAt (zu rr).round a.eval=execOp a.eval o:=by
    unfold Oper.semAt
    split
    . rename_i e;rw [e] at hd;cases hd
    . rfl
  rw [hs];generalize (execOp a.eval o).run P w=r at *
  cases r with
  | ok x w'=>
    cases x <;> simp only [Oper.upon,Oper.uponIn] at h ⊢ <;> first | exact h | exact ⟨jv rr,j9 h⟩ | exact ⟨jv rr,zX h⟩
  | halt x w'=>cases x <;> simp only [Oper.upon,Oper.uponIn] at h ⊢ <;> exact h
theorem Gj (hd:ops.all (λo=>p8 o.op)=true) (hQ:¬ LetsOut Q) {i:Nat} {K:Act->World->Prop} {a:Act} {w:World} (h:wpOp P ops Q i K a w):wpOpIn (zu rr) 0 P ops Q i K a w:=by
  unfold wpOp at h;unfold wpOpIn
  cases ho:ops[i]? with
  | none=>rw [ho] at h;exact h
  | some o=>
    rw [ho] at h
    simp only at h ⊢
    have hdo:p8 o.op=true:=by
      rw [Array.all_eq_true'] at hd;exact hd o (Array.mem_of_getElem? ho)
    split
    . rename_i hw
      rw [if_pos hw] at h
      exact I7 hdo (h.resolve_right λh=>hQ h.2)
    . rename_i hw
      rw [if_neg hw] at h
      exact ⟨λf _=>kw rr f,h⟩
theorem nC (hd:ops.all (λo=>p8 o.op)=true) (hQ:¬ LetsOut Q) {Po:Nat->World->World->Prop}:∀ (fuel:Nat) (listed:Array Bool) (a:Act) (w:World),qX P ops Q Po fuel listed a w->wpAnyIn (zu rr) 0 P .any ops Q fuel listed a w
  | 0,_,_,_,h=>h
  | fuel+1,_,_,_,h=>⟨h.1,λi hi=>wpOpIn_mono (λa' w' h'=>nC hd hQ fuel _ a' w' h'.2) (Gj hd hQ (h.2 i hi))⟩
def Sched.fits (ops:Array Oper) (L qs:List Nat) (s:Sched):Bool:=
  Region.noSelect ops && L.all (qs.contains ·) && Nat.ble s.len ops.size && s.ok ops L qs (Array.replicate ops.size false) && ops.all (λo=>p8 o.op)
theorem Lv {id:Nat} {l:List Oper} {a:Act} {w:World} (S:World->Prop) (L qs:List Nat) (s:Sched) (hm:P.follows .mixedOrders=true) (hfit:s.fits l.toArray L qs=true)
    (hS:S w.drew) (h:gQ P l.toArray (NP Q) S L qs s a w.drew):(Code.region id l.toArray true).wq rr P Q a w:=by
  unfold Sched.fits at hfit;simp only [Bool.and_eq_true,List.all_eq_true] at hfit;obtain ⟨⟨⟨⟨h1,h2⟩,h3⟩,h4⟩,h5⟩:=hfit;refine wpIn_mono (Q:=NP Q) (wpIn_region_any hm (nC h5 (λ⟨a,w,h⟩=>h) (Po:=Po P l.toArray S L qs) _ _ _ _ ?_)) (λe a w h=>by cases e <;> first | exact h | exact h.elim);exact bS (L:=L) (qs:=qs) h2 h1 (λc a w d v hq=>hq) s _ _ _ _ (Closed.none _) (Nat.le_of_ble_eq_true h3) h4 (λ_=>hS) h
end
section
variable {P:Program} {ops:Array Oper} {Q:Exit->Act->World->Prop} {S:World->Prop} {L qs:List Nat} {s:Sched} {n:Nat} {σ:Nat->Value} {ds:List Deferred} {w:World} {op:Op} {ty:TypeId} {pos:String} {af:Array Edge} {d:Nat} {v:Value}
theorem d_q {i:Nat} (hi:ops[i]?=some ⟨some d,op,ty,pos,af,none⟩) (hq:qs.contains i=true) (h:∀ w,Ex P (ev n σ) w op ty v) (k:gQ P ops Q S L qs s (F n (gT σ d v) ds) w):gQ P ops Q S L qs (.one i s) (F n σ ds) w:=by
  simp only [gQ,hq,if_true];refine ⟨_,v,hi,.inl ⟨rfl,λw' _=>?_⟩,?_⟩
  . rw [aP];exact h w' _ _ _ _
  . simp only [fT];exact k
theorem Te {i:Nat} (hi:ops[i]?=some ⟨some d,op,ty,pos,af,none⟩) (hq:qs.contains i=true) (hL:L.contains i=true) (h:∀ w,S w->Ex P (ev n σ) w op ty v) (k:gQ P ops Q S L qs s (F n (gT σ d v) ds) w):gQ P ops Q S L qs (.one i s) (F n σ ds) w:=by
  simp only [gQ,hq,if_true];refine ⟨_,v,hi,.inl ⟨rfl,λw' hw'=>?_⟩,?_⟩
  . rw [if_pos hL] at hw';rw [aP];exact h w' hw' _ _ _ _
  . simp only [fT];exact k
theorem R4 {i j t:Nat} {b b':Bool} (hi:ops[i]?=some ⟨some d,op,ty,pos,af,some (j,b)⟩) (hq:qs.contains i=true) (hj:(ops[j]?).bind (·.dst)=some t) (ht:ev n σ (.tmp t)= .bool b') (hlt:t<n) (hne:(b' == b)=false)
    (k:gQ P ops Q S L qs s (F n (gT σ d undef) ds) w):gQ P ops Q S L qs (.one i s) (F n σ ds) w:=by
  simp only [gQ,hq,if_true];refine ⟨_,undef,hi,.inr ⟨?_,rfl⟩,?_⟩
  . rw [dX hj ht hlt];exact hne
  . simp only [fT];exact k
theorem RZ {i j t:Nat} {b:Bool} (hi:ops[i]?=some ⟨some d,op,ty,pos,af,some (j,b)⟩) (hq:qs.contains i=true) (hj:(ops[j]?).bind (·.dst)=some t) (ht:ev n σ (.tmp t)=undef) (hlt:t<n)
    (k:gQ P ops Q S L qs s (F n (gT σ d undef) ds) w):gQ P ops Q S L qs (.one i s) (F n σ ds) w:=by
  simp only [gQ,hq,if_true];refine ⟨_,undef,hi,.inr ⟨nS hj ht hlt,rfl⟩,?_⟩;simp only [fT];exact k
theorem d_gq {i j t:Nat} {b:Bool} (hi:ops[i]?=some ⟨some d,op,ty,pos,af,some (j,b)⟩) (hq:qs.contains i=true) (hj:(ops[j]?).bind (·.dst)=some t) (ht:ev n σ (.tmp t)= .bool b) (hlt:t<n)
    (h:∀ w,Ex P (ev n σ) w op ty v) (k:gQ P ops Q S L qs s (F n (gT σ d v) ds) w):gQ P ops Q S L qs (.one i s) (F n σ ds) w:=by
  simp only [gQ,hq,if_true];refine ⟨_,v,hi,.inl ⟨?_,λw' _=>?_⟩,?_⟩
  . rw [dX hj ht hlt];simp
  . rw [aP];exact h w' _ _ _ _
  . simp only [fT];exact k
theorem RL {i j t:Nat} {b:Bool} (hi:ops[i]?=some ⟨some d,op,ty,pos,af,some (j,b)⟩) (hq:qs.contains i=true) (hL:L.contains i=true) (hj:(ops[j]?).bind (·.dst)=some t) (ht:ev n σ (.tmp t)= .bool b) (hlt:t<n)
    (h:∀ w,S w->Ex P (ev n σ) w op ty v) (k:gQ P ops Q S L qs s (F n (gT σ d v) ds) w):gQ P ops Q S L qs (.one i s) (F n σ ds) w:=by
  simp only [gQ,hq,if_true];refine ⟨_,v,hi,.inl ⟨?_,λw' hw'=>?_⟩,?_⟩
  . rw [dX hj ht hlt];simp
  . rw [if_pos hL] at hw';rw [aP];exact h w' hw' _ _ _ _
  . simp only [fT];exact k
theorem d_if {i:Nat} {p:Prop} [Decidable p] (hi:ops[i]?=some ⟨some d,op,ty,pos,af,none⟩) (hq:qs.contains i=true) (h:∀ w,Ex P (ev n σ) w op ty (.bool (decide p)))
    (k1:p->gQ P ops Q S L qs s (F n (gT σ d (.bool true)) ds) w) (k2:¬ p->gQ P ops Q S L qs s (F n (gT σ d (.bool false)) ds) w):gQ P ops Q S L qs (.one i s) (F n σ ds) w:=by
  by_cases hp:p
  . exact d_q hi hq (λw=>by have:=h w;rwa [decide_eq_true hp] at this) (k1 hp)
  . exact d_q hi hq (λw=>by have:=h w;rwa [decide_eq_false hp] at this) (k2 hp)
theorem iW {j t:Nat} {b:Bool} {dst:Option Tmp} (hj:(ops[j]?).bind (·.dst)=some t) (ht:ev n σ (.tmp t)= .bool b) (hlt:t<n):Region.wanted ⟨dst,op,ty,pos,af,some (j,b)⟩ (yielded ops (F n σ ds).tmps)=true:=by
  rw [dX hj ht hlt];simp
theorem rY {i:Nat} {K:Act->World->Prop} {dst:Option Tmp} {g:Option (Nat × Bool)} (hi:ops[i]?=some ⟨dst,op,ty,pos,af,g⟩) (hg:Region.wanted ⟨dst,op,ty,pos,af,g⟩ (yielded ops (F n σ ds).tmps)=true)
    (h:(Oper.mk dst op ty pos af g).wp P (F n σ ds) w (λa' w'=>(bJ ops L i=true->S w')/\K a' w') Q):uV P ops Q S L i K (F n σ ds) w:=by
  unfold uV wpOp;simp only [hi,hg,if_true];exact .inl h
theorem d_e' {i:Nat} {K:Act->World->Prop} {g:Option (Nat × Bool)} (hi:ops[i]?=some ⟨some d,op,ty,pos,af,g⟩) (hg:Region.wanted ⟨some d,op,ty,pos,af,g⟩ (yielded ops (F n σ ds).tmps)=true)
    (h:fU P (ev n σ) w op ty (λv w'=>(bJ ops L i=true->S w')/\K (F n (gT σ d v) ds) w')):uV P ops Q S L i K (F n σ ds) w:=by
  refine rY hi hg ?_;obtain ⟨v,w',k,h⟩:=h;unfold Oper.wp;rw [aP]
  rcases h with h | ⟨rfl,h⟩ <;> rw [h] <;> simp only [Oper.upon,fT] <;> exact k
theorem d_s' {i:Nat} {K:Act->World->Prop} {g:Option (Nat × Bool)} (hi:ops[i]?=some ⟨none,op,ty,pos,af,g⟩) (hg:Region.wanted ⟨none,op,ty,pos,af,g⟩ (yielded ops (F n σ ds).tmps)=true)
    (h:fU P (ev n σ) w op ty (λ_ w'=>(bJ ops L i=true->S w')/\K (F n σ ds) w')):uV P ops Q S L i K (F n σ ds) w:=by
  refine rY hi hg ?_;obtain ⟨v,w',k,h⟩:=h;unfold Oper.wp;rw [aP]
  rcases h with h | ⟨rfl,h⟩ <;> rw [h] <;> simp only [Oper.upon,tq] <;> exact k
theorem d_c' {i:Nat} {K:Act->World->Prop} {f:FuncId} {args:Array Value} {R:Ending->World->Prop} {g:Option (Nat × Bool)} (hi:ops[i]?=some ⟨some d,op,ty,pos,af,g⟩) (hg:Region.wanted ⟨some d,op,ty,pos,af,g⟩ (yielded ops (F n σ ds).tmps)=true)
    (he:iP P (ev n σ) w op ty f args) (hc:Calls P f args w R)
    (k:∀ e w',R e w'->∃ v,e= .returned v/\(bJ ops L i=true->S w')/\K (F n (gT σ d v) ds) w'):uV P ops Q S L i K (F n σ ds) w:=by
  refine rY hi hg ?_;unfold Oper.wp;rw [aP,he];simp only [Oper.upon];refine hc.mono λe w' hR=>?_;obtain ⟨v,rfl,hk⟩:=k e w' hR;simp only [fT];exact hk
theorem d_e {i:Nat} (hq:qs.contains i=false) (h:uV P ops Q S L i (gQ P ops Q S L qs s) (F n σ ds) w):gQ P ops Q S L qs (.one i s) (F n σ ds) w:=by
  simp only [gQ,hq];exact h
theorem d_done (h:Q .normal (F n σ ds) w):gQ P ops (NP Q) S L qs .done (F n σ ds) w:=h
end
attribute [irreducible] gQ uV SG
end Go.Eng
