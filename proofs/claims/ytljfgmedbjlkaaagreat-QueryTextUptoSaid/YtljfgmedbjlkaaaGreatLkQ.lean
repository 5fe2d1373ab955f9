/- A lean reckoner for closed runs: values, blocks, results that are the same. Over any program. -/
import Derived.Test.YtljfgmedbjlkaaaGreatLkN
namespace Go.Lk
open Go.Eng Go.RowKit
theorem bC {o:Option Bool} (h:sameV.yes o=true):o=some true:=by
 cases o with
 | none=>cases h
 | some b=>exact congrArg some h
mutual
theorem iF:∀ (v u:V),sameV v u=true->v=u
 | .int k x,u,e=>by
  have e1:sameV.yes (V.onInt (λj y=>some (Bool.rec false (JH x y) (Nat.beq (aM k) (aM j)):Bool)) u)=true:=e;have e2:=bC e1;clear e e1;rw [aK] at e2;obtain ⟨j,y,rfl,e3⟩:=e2;have e:(Bool.rec false (JH x y) (Nat.beq (aM k) (aM j)):Bool)=true:=Option.some.inj e3
  cases hk:Nat.beq (aM k) (aM j) with
  | false=>rw [hk] at e;cases e
  | true=>
   rw [hk] at e
   have:=cu hk
   subst this
   rw [tO] at e
   rw [of_decide_eq_true e]
 | .bool a,u,e=>by
  have e1:sameV.yes (V.onBool (λb=>some (Bool.rec (dP b) b a:Bool)) u)=true:=e;have e2:=bC e1;clear e e1;rw [fB] at e2;obtain ⟨b,rfl,e3⟩:=e2;cases a <;> cases b <;> first | rfl | cases e3
 | .str a,u,e=>by
  have e1:sameV.yes (V.onStr (λb=>some (zI a b)) u)=true:=e;have e2:=bC e1;clear e e1;rw [bV] at e2;obtain ⟨b,rfl,e3⟩:=e2;have e:=Option.some.inj e3;rw [o8] at e;rw [of_decide_eq_true e]
 | .pnil,u,e=>by
  have e1:sameV.yes (eqD.onP (some true) none u)=true:=e;have e2:=bC e1;clear e e1;cases u <;> first | rfl | cases e2
 | .ptr b i j,u,e=>by
  have e1:sameV.yes (V.onPtr (λb' i' j'=>some (Bool.rec false (Bool.rec false (Nat.beq j j') (Nat.beq i i'):Bool) (P.beq b b'):Bool)) u)=true:=e;have e2:=bC e1;clear e e1;rw [bE] at e2;obtain ⟨b',i',j',rfl,e3⟩:=e2;have e:(Bool.rec false (Bool.rec false (Nat.beq j j') (Nat.beq i i')) (P.beq b b'):Bool)=true:=Option.some.inj e3
  cases h1:P.beq b b' with
  | false=>rw [h1] at e;cases e
  | true=>
   rw [h1] at e
   cases h2:Nat.beq i i' with
   | false=>rw [h2] at e;cases e
   | true=>
    rw [h2] at e
    rw [(P.beq_iff _ _).1 h1,Nat.eq_of_beq_eq_true h2,Nat.eq_of_beq_eq_true e]
 | .snil,u,e=>by
  have e1:sameV.yes (V.onSl (some true) (λ_ _ _ _=>none) u)=true:=e;have e2:=bC e1;clear e e1;cases u <;> first | rfl | cases e2
 | .sl b i l c,u,e=>by
  have e1:sameV.yes (V.onSl none (λb' i' l' c'=>some (Bool.rec false (Bool.rec false (Bool.rec false (sameV.capEq c c') (Nat.beq l l'):Bool) (Nat.beq i i'):Bool) (P.beq b b'):Bool)) u)=true:=e;have e2:=bC e1;clear e e1;rw [bu] at e2
  rcases e2 with ⟨_,e3⟩ | ⟨b',i',l',c',rfl,e3⟩
  .cases e3
  have e:(Bool.rec false (Bool.rec false (Bool.rec false (sameV.capEq c c') (Nat.beq l l')) (Nat.beq i i')) (P.beq b b'):Bool)=true:=Option.some.inj e3
  cases h1:P.beq b b' with
  | false=>rw [h1] at e;cases e
  | true=>
   rw [h1] at e
   cases h2:Nat.beq i i' with
   | false=>rw [h2] at e;cases e
   | true=>
    rw [h2] at e
    cases h3:Nat.beq l l' with
    | false=>rw [h3] at e;cases e
    | true=>
     rw [h3] at e
     have hc:c=c':=by
      cases c <;> cases c' <;> first | rfl | (cases e;done) | exact congrArg some (Nat.eq_of_beq_eq_true e)
     rw [(P.beq_iff _ _).1 h1,Nat.eq_of_beq_eq_true h2,Nat.eq_of_beq_eq_true h3,hc]
 | .fn f a b,u,e=>by
  have e1:sameV.yes (V.onFn (λg a' b'=>some (Bool.rec false (Bool.rec false (sameV (.agg b) (.agg b')) (sameV (.agg a) (.agg a')):Bool) (Nat.beq f g):Bool)) (λ_=>none) u)=true:=e;have e2:=bC e1;clear e e1;rw [iq] at e2
  rcases e2 with ⟨g,a',b',rfl,e3⟩ | ⟨_,_,e3⟩
  case inr=>cases e3
  have e:(Bool.rec false (Bool.rec false (sameV (.agg b) (.agg b')) (sameV (.agg a) (.agg a'))) (Nat.beq f g):Bool)=true:=Option.some.inj e3
  cases h1:Nat.beq f g with
  | false=>rw [h1] at e;cases e
  | true=>
   rw [h1] at e
   cases h2:sameV (.agg a) (.agg a') with
   | false=>rw [h2] at e;cases e
   | true=>
    rw [h2] at e
    rw [Nat.eq_of_beq_eq_true h1,jk a a' h2,jk b b' e]
 | .yield l,u,e=>by
  have e1:sameV.yes (V.onFn (λ_ _ _=>none) (λl'=>some (P.beq l l')) u)=true:=e;have e2:=bC e1;clear e e1;rw [iq] at e2
  rcases e2 with ⟨_,_,_,_,e3⟩ | ⟨l',rfl,e3⟩
  .cases e3
  .rw [(P.beq_iff _ _).1 (Option.some.inj e3)]
 | .fnil,u,e=>by
  have e1:sameV.yes (eqD.onF (some true) none u)=true:=e;have e2:=bC e1;clear e e1;cases u <;> first | rfl | cases e2
 | .mnil,u,e=>by
  have e1:sameV.yes (V.onMap (some true) (λ_=>none) u)=true:=e;have e2:=bC e1;clear e e1;cases u <;> first | rfl | cases e2
 | .map b,u,e=>by
  have e1:sameV.yes (V.onMap none (λb'=>some (P.beq b b')) u)=true:=e;have e2:=bC e1;clear e e1;rw [bD] at e2
  rcases e2 with ⟨_,e3⟩ | ⟨b',rfl,e3⟩
  .cases e3
  .rw [(P.beq_iff _ _).1 (Option.some.inj e3)]
 | .inil,u,e=>by
  have e1:sameV.yes (eqD.onI (some true) none u)=true:=e;have e2:=bC e1;clear e e1;cases u <;> first | rfl | cases e2
 | .iface t x,u,e=>by
  have e1:sameV.yes (V.onIface (λt' y=>some (Bool.rec false (sameV x y) (Nat.beq t t'):Bool)) u)=true:=e;have e2:=bC e1;clear e e1;cases u <;> first | (cases e2;done) | skip
  rename_i t' y;have e:(Bool.rec false (sameV x y) (Nat.beq t t'):Bool)=true:=Option.some.inj e2
  cases h1:Nat.beq t t' with
  | false=>rw [h1] at e;cases e
  | true=>rw [h1] at e;rw [Nat.eq_of_beq_eq_true h1,iF x y e]
 | .agg l,u,e=>by
  have e1:sameV.yes (V.onAgg (λm=>some (sameV (.agg l) (.agg m))) u)=true:=e;have e2:=bC e1;clear e e1;rw [mB] at e2;obtain ⟨m,rfl,e3⟩:=e2;rw [jk l m (Option.some.inj e3)]
 | .tup l,u,e=>by
  have e1:sameV.yes (V.onTup (λm=>some (sameV (.agg l) (.agg m))) u)=true:=e;have e2:=bC e1;clear e e1;rw [sV] at e2;obtain ⟨m,rfl,e3⟩:=e2;rw [jk l m (Option.some.inj e3)]
 | .flt a,u,e=>by
  have e:sameV.yes (V.onFlt (λb=>some (Nat.beq a b)) u)=true:=e;have e2:=bC e;cases u <;> first | (cases e2;done) | skip
  rename_i b _;have e3:some (Nat.beq a b)=some true:=e2;rw [Nat.eq_of_beq_eq_true (Option.some.inj e3)]
theorem jk:∀ (l m:List V),sameV (.agg l) (.agg m)=true->l=m
 | [],m,e=>by
  cases m with
  | nil=>rfl
  | cons=>cases e
 | v::l,m,e=>by
  cases m with
  | nil=>cases e
  | cons u m=>
   have e:(Bool.rec false (sameV (.agg l) (.agg m)) (sameV v u):Bool)=true:=e
   cases h1:sameV v u with
   | false=>rw [h1] at e;cases e
   | true=>rw [h1] at e;rw [iF v u h1,jk l m e]
end
theorem pM {a b:Bool} (h:(Bool.rec (dP b) b a:Bool)=true):a=b:=by cases a <;> cases b <;> first | rfl | cases h
theorem xy {b c:Bool}:(Bool.rec false c b:Bool)=true↔b=true/\c=true:=by cases b <;> simp
theorem pO:∀ (a b:List (List V)),nW a b=true->a=b
 | [],b,h=>by cases b with
  | nil=>rfl
  | cons=>cases h
 | r::a,b,h=>by
  cases b with
  | nil=>cases h
  | cons r' b=>
   have h:(Bool.rec false (nW a b) (sameV (.tup r) (.tup r')):Bool)=true:=h
   rw [xy] at h
   have h1:=iF _ _ h.1
   cases h1
   rw [pO a b h.2]
theorem qf:∀ (a b:List iP),nZ a b=true->a=b
 | [],b,h=>by cases b with
  | nil=>rfl
  | cons=>cases h
 | (k,v,s)::a,b,h=>by
  cases b with
  | nil=>cases h
  | cons e' b=>
   obtain ⟨k',v',s'⟩:=e'
   have h:(Bool.rec false (Bool.rec false (Bool.rec false (nZ a b) (Nat.beq s s')) (sameV v v')) (sameV k k'):Bool)=true:=h
   rw [xy,xy,xy] at h
   rw [iF _ _ h.1,iF _ _ h.2.1,Nat.eq_of_beq_eq_true h.2.2.1,qf a b h.2.2.2]
theorem Eh {a b:Option P} (h:Bg a b=true):a=b:=by
 cases a <;> cases b <;> first | rfl | (cases h;done) | exact congrArg some ((P.beq_iff _ _).1 h)
theorem Bh (a b:Blk) (h:wT a b=true):a=b:=by
 cases a with
 | rows t k op rs=>
  cases b <;> first | (cases h;done) | skip
  rename_i t' k' op' rs'
  have h:(Bool.rec false (Bool.rec false (Bool.rec false (nW rs rs') (Bool.rec (dP op') op' op)) (Nat.beq k k')) (Nat.beq t t'):Bool)=true:=h
  rw [xy,xy,xy] at h
  rw [Nat.eq_of_beq_eq_true h.1,Nat.eq_of_beq_eq_true h.2.1,pM h.2.2.1,pO _ _ h.2.2.2]
 | map es c=>
  cases b <;> first | (cases h;done) | skip
  rename_i es' c'
  have h:(Bool.rec false (nZ es es') (Nat.beq c c'):Bool)=true:=h
  rw [xy] at h
  rw [Nat.eq_of_beq_eq_true h.1,qf _ _ h.2]
 | strIter l p=>
  cases b <;> first | (cases h;done) | skip
  rename_i l' p'
  have h:(Bool.rec false (zI l l') (Nat.beq p p'):Bool)=true:=h
  rw [xy,o8,decide_eq_true_eq] at h
  rw [Nat.eq_of_beq_eq_true h.1,h.2]
 | mapIter m si se la=>
  cases b <;> first | (cases h;done) | skip
  rename_i m' si' se' la'
  have h:(Bool.rec false (Bool.rec false (Bool.rec false (zI se se') (Nat.beq la la')) (Nat.beq si si')) (Bg m m'):Bool)=true:=h
  rw [xy,xy,xy,o8,decide_eq_true_eq] at h
  rw [Eh h.1,Nat.eq_of_beq_eq_true h.2.1,Nat.eq_of_beq_eq_true h.2.2.1,h.2.2.2]
 | loop=>cases h
 | dfr l=>
  cases b <;> first | (cases h;done) | skip
  rename_i l'
  have h:(Bool.rec (dP l') l' l:Bool)=true:=h
  rw [pM h]
 | fz l=>
  cases b <;> first | (cases h;done) | skip
  rename_i l'
  have h:zI l l'=true:=h
  rw [o8,decide_eq_true_eq] at h
  rw [h]
theorem oL:∀ (a:T Blk),yw a .e=true->∀ p,T.get p a=none
 | .e,_,p=>by simp
 | .n v l r,h,p=>by
  have h:(Bool.rec false (Bool.rec false (yw r .e) (yw l .e)) (Option.rec true (λ_=>false) v):Bool)=true:=h;rw [xy,xy] at h
  cases p with
  | z=>cases v with
   | none=>rfl
   | some B=>cases h.1
  | l p=>exact oL l h.2.1 p
  | r p=>exact oL r h.2.2 p
theorem pE:∀ (a b:T Blk),yw a b=true->∀ p B,T.get p a=some B->T.get p b=some B
 | .e,b,_,p,B,hp=>by simp at hp
 | .n v l r,.e,h,p,B,hp=>by rw [oL _ h p] at hp;cases hp
 | .n v l r,.n v' l' r',h,p,B,hp=>by
  have h:(Bool.rec false (Bool.rec false (yw r r') (yw l l')) (Option.rec true (λB=>Option.rec false (λB'=>wT B B') v') v):Bool)=true:=h;rw [xy,xy] at h
  cases p with
  | z=>
   have hp:v=some B:=hp
   subst hp
   cases v' with
   | none=>cases h.1
   | some B'=>have:=Bh _ _ h.1;subst this;rfl
  | l p=>exact pE l l' h.2.1 p B hp
  | r p=>exact pE r r' h.2.2 p B hp
theorem Ai {a b:jI} (h:Gx a b=true):a.1=b.1/\a.2.2=b.2.2/\∀ p B,T.get p a.2.1=some B->T.get p b.2.1=some B:=by
 have h:(Bool.rec false (Bool.rec false (yw a.2.1 b.2.1) (P.beq a.2.2 b.2.2)) (sameV a.1 b.1):Bool)=true:=h;rw [xy,xy] at h;exact ⟨iF _ _ h.1,(P.beq_iff _ _).1 h.2.1,pE _ _ h.2.2⟩
theorem Rh.sub {w0:Base} {ρ:Ren} {h h':T Blk} {n:P} {w:World} (H:Rh w0 ρ h n w) (hs:∀ p B,T.get p h'=some B->T.get p h=some B):Rh w0 ρ h' n w:=
 ⟨H.old,H.kept,λb B L hb hL=>H.safe b B L (hs _ _ hb) hL,H.new,λb B L hb hL=>H.live b B L (hs _ _ hb) hL,λb1 b2 B1 B2 L1 L2 h1 h2 h3 h4 h5=>H.apart b1 b2 B1 B2 L1 L2 (hs _ _ h1) (hs _ _ h2) h3 h4 h5⟩
end Go.Lk
