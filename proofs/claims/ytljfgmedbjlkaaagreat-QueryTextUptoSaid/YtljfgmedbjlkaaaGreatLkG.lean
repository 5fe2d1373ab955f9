/- A lean reckoner for closed runs: frames, operands, what a step's success says. Over any program. -/
import Derived.Test.YtljfgmedbjlkaaaGreatLkD
namespace Go.Lk
open Go.Eng Go.RowKit
section
variable {β:Type} {r:β}
theorem ah {α:Type} {x:Option α} {f:α->Option β}:on x f=some r↔∃ a,x=some a/\f a=some r:=by
 cases x with
 | none=>exact ⟨λh=>(by cases h),λ⟨_,h,_⟩=>(by cases h)⟩
 | some a=>exact ⟨λh=>⟨a,rfl,h⟩,λ⟨_,h,h'⟩=>(by cases h;exact h')⟩
theorem aK {f:IntKind->Int->Option β} {v:V}:V.onInt f v=some r↔∃ k x,v= .int k x/\f k x=some r:=by
 cases v <;> constructor <;> intro h <;> first | exact ⟨_,_,rfl,h⟩ | (obtain ⟨_,_,h,h'⟩:=h;cases h;exact h') | (obtain ⟨_,_,h,_⟩:=h;cases h;done) | (cases h;done)
theorem fB {f:Bool->Option β} {v:V}:V.onBool f v=some r↔∃ b,v= .bool b/\f b=some r:=by
 cases v <;> constructor <;> intro h <;> first | exact ⟨_,rfl,h⟩ | (obtain ⟨_,h,h'⟩:=h;cases h;exact h') | (obtain ⟨_,h,_⟩:=h;cases h;done) | (cases h;done)
theorem bV {f:List Nat->Option β} {v:V}:V.onStr f v=some r↔∃ b,v= .str b/\f b=some r:=by
 cases v <;> constructor <;> intro h <;> first | exact ⟨_,rfl,h⟩ | (obtain ⟨_,h,h'⟩:=h;cases h;exact h') | (obtain ⟨_,h,_⟩:=h;cases h;done) | (cases h;done)
theorem bE {f:P->Nat->Nat->Option β} {v:V}:V.onPtr f v=some r↔∃ b i j,v= .ptr b i j/\f b i j=some r:=by
 cases v <;> constructor <;> intro h <;> first | exact ⟨_,_,_,rfl,h⟩ | (obtain ⟨_,_,_,h,h'⟩:=h;cases h;exact h') | (obtain ⟨_,_,_,h,_⟩:=h;cases h;done) | (cases h;done)
theorem bu {g:Option β} {f:P->Nat->Nat->Option Nat->Option β} {v:V}:V.onSl g f v=some r↔(v= .snil/\g=some r)\/∃ b i l c,v= .sl b i l c/\f b i l c=some r:=by
 cases v <;> constructor <;> intro h <;> first | exact .inl ⟨rfl,h⟩ | exact .inr ⟨_,_,_,_,rfl,h⟩ | (cases h;done) | (rcases h with ⟨h,h'⟩ | ⟨_,_,_,_,h,h'⟩ <;> first | (cases h;exact h') | (cases h;done)) | (cases h;done)
theorem iq {f:FuncId->List V->List V->Option β} {g:P->Option β} {v:V}:V.onFn f g v=some r↔(∃ h a b,v= .fn h a b/\f h a b=some r)\/∃ l,v= .yield l/\g l=some r:=by
 cases v <;> constructor <;> intro h <;> first | exact .inl ⟨_,_,_,rfl,h⟩ | exact .inr ⟨_,rfl,h⟩ | (cases h;done) | (rcases h with ⟨_,_,_,h,h'⟩ | ⟨_,h,h'⟩ <;> first | (cases h;exact h') | (cases h;done)) | (cases h;done)
theorem bD {g:Option β} {f:P->Option β} {v:V}:V.onMap g f v=some r↔(v= .mnil/\g=some r)\/∃ b,v= .map b/\f b=some r:=by
 cases v <;> constructor <;> intro h <;> first | exact .inl ⟨rfl,h⟩ | exact .inr ⟨_,rfl,h⟩ | (cases h;done) | (rcases h with ⟨h,h'⟩ | ⟨_,h,h'⟩ <;> first | (cases h;exact h') | (cases h;done)) | (cases h;done)
theorem mB {f:List V->Option β} {v:V}:V.onAgg f v=some r↔∃ b,v= .agg b/\f b=some r:=by
 cases v <;> constructor <;> intro h <;> first | exact ⟨_,rfl,h⟩ | (obtain ⟨_,h,h'⟩:=h;cases h;exact h') | (obtain ⟨_,h,_⟩:=h;cases h;done) | (cases h;done)
theorem sV {f:List V->Option β} {v:V}:V.onTup f v=some r↔∃ b,v= .tup b/\f b=some r:=by
 cases v <;> constructor <;> intro h <;> first | exact ⟨_,rfl,h⟩ | (obtain ⟨_,h,h'⟩:=h;cases h;exact h') | (obtain ⟨_,h,_⟩:=h;cases h;done) | (cases h;done)
theorem eQ {f:Nat->Option β} {v:V}:iQ f v=some r↔∃ k x,v= .int k (.ofNat x)/\f x=some r:=by
 unfold iQ;rw [aK]
 constructor
 .rintro ⟨k,x,rfl,h⟩
  cases x with
  | ofNat x=>exact ⟨k,x,rfl,h⟩
  | negSucc x=>cases h
 .rintro ⟨k,x,rfl,h⟩;exact ⟨k,_,rfl,h⟩
theorem dQ {f:TypeId->Nat->Bool->List (List V)->Option β} {B:Blk}:Blk.onRows f B=some r↔∃ t k o rs,B= .rows t k o rs/\f t k o rs=some r:=by
 cases B <;> constructor <;> intro h <;> first | exact ⟨_,_,_,_,rfl,h⟩ | (obtain ⟨_,_,_,_,h,h'⟩:=h;cases h;exact h') | (obtain ⟨_,_,_,_,h,_⟩:=h;cases h;done) | (cases h;done)
theorem yf {f:List iP->Nat->Option β} {B:Blk}:Blk.onMap f B=some r↔∃ es c,B= .map es c/\f es c=some r:=by
 cases B <;> constructor <;> intro h <;> first | exact ⟨_,_,rfl,h⟩ | (obtain ⟨_,_,h,h'⟩:=h;cases h;exact h') | (obtain ⟨_,_,h,_⟩:=h;cases h;done) | (cases h;done)
theorem gH {f:LoopState->Option X->T V->Nat->List Nat->Code->Code->P->Option β} {B:Blk}:Blk.onLoop f B=some r↔∃ st p σ m ps a b d,B= .loop st p σ m ps a b d/\f st p σ m ps a b d=some r:=by
 cases B <;> constructor <;> intro h <;> first | exact ⟨_,_,_,_,_,_,_,_,rfl,h⟩ | (obtain ⟨_,_,_,_,_,_,_,_,h,h'⟩:=h;cases h;exact h') | (obtain ⟨_,_,_,_,_,_,_,_,h,_⟩:=h;cases h;done) | (cases h;done)
theorem AC {f:Bool->Option β} {B:Blk}:Blk.onDfr f B=some r↔∃ b,B= .dfr b/\f b=some r:=by
 cases B <;> constructor <;> intro h <;> first | exact ⟨_,rfl,h⟩ | (obtain ⟨_,h,h'⟩:=h;cases h;exact h') | (obtain ⟨_,h,_⟩:=h;cases h;done) | (cases h;done)
theorem fJ {b:Bool} {f g:Option β}:(Bool.rec f g b:Option β)=some r↔(b=true/\g=some r)\/(b=false/\f=some r):=by cases b <;> simp
theorem aj {b:Bool} {g:Option β}:(Bool.rec none g b:Option β)=some r↔b=true/\g=some r:=by cases b <;> simp
theorem jq {b:Bool} {f:Option β}:(Bool.rec f none b:Option β)=some r↔b=false/\f=some r:=by cases b <;> simp
end
section
variable {α β:Type}
@[simp] theorem il (l m:List α):fF l m=l++m:=by
 induction l with
 | nil=>rfl
 | cons v l ih=>show v::fF l m=_;rw [ih];rfl
@[simp] theorem bO (l:List α):bR l=l.length:=by
 induction l with
 | nil=>rfl
 | cons v l ih=>show Nat.succ (bR l)=_;rw [ih];rfl
@[simp] theorem DA (f:α->β) (l:List α):BC f l=l.map f:=by
 induction l with
 | nil=>rfl
 | cons v l ih=>show f v::BC f l=_;rw [ih];rfl
@[simp] theorem jD (v:α) (n:Nat):ur v n=List.replicate n v:=by
 induction n with
 | zero=>rfl
 | succ n ih=>show v::ur v n=_;rw [ih];rfl
@[simp] theorem nD (l:List (List α)):oz l=l.flatten:=by
 induction l with
 | nil=>rfl
 | cons v l ih=>show fF v (oz l)=_;rw [ih];simp
end
theorem o8 (a b:List Nat):zI a b=decide (a=b):=by
 induction a generalizing b with
 | nil=>cases b <;> rfl
 | cons x a ih=>
  cases b with
  | nil=>rfl
  | cons y b=>
   show (Bool.rec false (zI a b) (Nat.beq x y):Bool)=_
   rw [ih]
   cases h:Nat.beq x y with
   | false=>simp only;symm;rw [decide_eq_false_iff_not];rintro ⟨⟩;simp at h
   | true=>have:=Nat.eq_of_beq_eq_true h;subst this;simp
structure Fr (ρ:Ren) (m:Nat) (σ:T V) (τ:Nat->Value):Prop where
 get:∀ t v,T.get (aB t) σ=some v->t<m/\Rv ρ v (τ t)
theorem Fr.mono {ρ ρ':Ren} (h:ρ.le ρ') {m:Nat} {σ:T V} {τ:Nat->Value} (f:Fr ρ m σ τ):Fr ρ' m σ τ:=⟨λt v e=>⟨(f.get t v e).1,(f.get t v e).2.mono h⟩⟩
theorem Fr.set {ρ:Ren} {m:Nat} {σ:T V} {τ:Nat->Value} (f:Fr ρ m σ τ) {v:V} {x:Value} (hv:Rv ρ v x) (d:Nat):Fr ρ m (T.set v (aB d) σ) (gT τ d x):=by
 refine ⟨λt u e=>?_⟩;rw [T.get_set] at e
 by_cases h:aB t=aB d
 .rw [if_pos h] at e;have h:=eU h;subst h
  cases hg:T.get (aB t) σ with
  | none=>rw [hg] at e;cases e
  | some y=>
   rw [hg] at e;cases e
   exact ⟨(f.get t y hg).1,by simp only [gT,Nat.beq_refl,cond_true];exact hv⟩
 .rw [if_neg h] at e;have h1:=f.get t u e;refine ⟨h1.1,?_⟩;have:Nat.beq t d=false:=by cases hb:Nat.beq t d;rfl;exact absurd (congrArg aB (Nat.eq_of_beq_eq_true hb)) h
  simp only [gT,this,cond_false];exact h1.2
theorem D8 (m t:Nat):T.get (aB t) (zh m)=if t<m then some aS else none:=by
 induction m with
 | zero=>show T.get (aB t) .e=_;simp
 | succ m ih=>
  show T.get (aB t) (T.put (some aS) (aB m) (zh m))=_
  rw [T.get_put,ih]
  by_cases h:aB t=aB m
  .rw [if_pos h,if_pos (by rw [eU h];omega)]
  .rw [if_neg h]
   have:t≠m:=λe=>h (congrArg aB e)
   by_cases h2:t<m
   .rw [if_pos h2,if_pos (by omega)]
   .rw [if_neg h2,if_neg (by omega)]
theorem fK {ρ:Ren}:Rv ρ aS undef:=by unfold aS;simp only [Rv];exact ⟨#[],rfl,by simp only [Rvs]⟩
theorem gK (ρ:Ren):∀ f,(∀ v u,tF f v=some u->Rv ρ u v)/\(∀ l us,jW f l=some us->Rvs ρ us l):=by
 intro f
 induction f with
 | zero=>exact ⟨λv u h=>(by simp [tF] at h),λv u h=>(by simp [jW] at h)⟩
 | succ f ih=>
  obtain ⟨ih1,ih2⟩:=ih
  constructor
  .intro v u h
   unfold tF at h
   split at h
   .cases h;simp only [Rv]
   .cases h;simp only [Rv]
   .cases h;simp only [Rv];exact ⟨_,rfl,rfl⟩
   .cases h;simp only [Rv]
   .cases h;simp only [Rv]
   .cases h;simp only [Rv]
   .cases h;simp only [Rv]
   .cases h;simp only [Rv]
   .cases h;simp only [Rv]
   .split at h
    .rename_i e1 e2;cases h;simp only [Rv];exact ⟨_,_,rfl,ih2 _ _ e1,ih2 _ _ e2⟩
    .cases h
   .split at h
    .rename_i e1;cases h;simp only [Rv];exact ⟨_,rfl,ih2 _ _ e1⟩
    .cases h
   .split at h
    .rename_i e1;cases h;simp only [Rv];exact ⟨_,rfl,ih2 _ _ e1⟩
    .cases h
   .split at h
    .rename_i e1;cases h;simp only [Rv];exact ⟨_,rfl,ih1 _ _ e1⟩
    .cases h
   .cases h
  .intro l us h
   cases l with
   | nil=>simp [jW] at h;subst h;simp only [Rvs]
   | cons v l=>
    simp only [jW] at h
    split at h
    .rename_i e1 e2;cases h;simp only [Rvs];exact ⟨_,_,rfl,ih1 _ _ e1,ih2 _ _ e2⟩
    .cases h
section
variable {ρ:Ren} {m:Nat} {σ:T V} {τ:Nat->Value}
theorem av (f:Fr ρ m σ τ) {x:Operand} {v:V} (h:aJ x σ=some v):Rv ρ v (ev m τ x):=by
 cases x with
 | tmp t=>
  obtain ⟨h1,h2⟩:=f.get t v h
  have:Nat.blt t m=true:=by rw [Nat.blt_eq];exact h1
  simp only [ev,this,cond_true];exact h2
 | const c=>exact (gK ρ 40).1 _ _ h
 | global g=>cases h
 | func g=>
  have h:(some (.fn g [] []):Option V)=some v:=h
  cases h
  simp only [Rv,ev]
  exact ⟨#[],#[],rfl,by simp only [Rvs],by simp only [Rvs]⟩
theorem dS (f:Fr ρ m σ τ):∀ {l:List Operand} {vs:List V},gq l σ=some vs->Rvs ρ vs (l.map (ev m τ))
 | [],vs,h=>by have h:(some []:Option (List V))=some vs:=h;cases h;simp only [List.map_nil,Rvs]
 | x::l,vs,h=>by
  have h:(on (aJ x σ) λv=>on (gq l σ) λm=>some (v::m))=some vs:=h;simp only [ah] at h;obtain ⟨v,h1,m,h2,h3⟩:=h;cases h3
  simp only [List.map_cons,Rvs];exact ⟨_,_,rfl,av f h1,dS f h2⟩
end
end Go.Lk
namespace Go.Lk
open Go.Eng Go.RowKit
section
variable {Pr:Program} {t:TypeId}
theorem jo {k:Nat} (h:l6 Pr t=some k):SZ Pr t k:=by
 intro w;unfold l6 at h
 cases hi:Pr.info? t with
 | none=>rw [hi] at h;cases h
 | some i=>
  rw [hi] at h;cases h
  simp [sizeOf,typeInfo,Sem.run_bind,hi]
theorem pD (h:fV Pr t=some none):NA Pr t:=by
 intro w;unfold fV at h
 split at h
 .cases hi:Pr.info? t <;> rw [hi] at h <;> cases h
 .cases hi:Pr.info? t <;> rw [hi] at h <;> cases h
 .rename_i d h1 h2 hd;simp only [isAgg,Sem.run_bind,run_underlying hd,Result.andThen_ok];cases d <;> first | exact absurd hd (h1 _) | exact absurd hd (h2 _ _) | rfl
 .cases h
theorem uX {k:Nat} (h:fV Pr t=some (some k)):AG Pr t k:=by
 intro w;unfold fV at h
 split at h
 .rename_i fs hd
  cases hi:Pr.info? t with
  | none=>rw [hi] at h;cases h
  | some i=>
   rw [hi] at h;cases h
   refine ⟨?_,by simp [sizeOf,typeInfo,Sem.run_bind,hi]⟩
   simp only [isAgg,Sem.run_bind,run_underlying hd,Result.andThen_ok];rfl
 .rename_i n e hd
  cases hi:Pr.info? t with
  | none=>rw [hi] at h;cases h
  | some i=>
   rw [hi] at h;cases h
   refine ⟨?_,by simp [sizeOf,typeInfo,Sem.run_bind,hi]⟩
   simp only [isAgg,Sem.run_bind,run_underlying hd,Result.andThen_ok];rfl
 .cases h
 .cases h
theorem jS {ρ:Ren} {z:V} (h:pR Pr t=some z):∃ x,ZV Pr t x/\Rv ρ z x:=by
 unfold pR at h
 cases hi:Pr.info? t with
 | none=>rw [hi] at h;cases h
 | some i=>
  rw [hi] at h
  cases hz:i.zero with
  | none=>simp [hz] at h
  | some x=>
   simp [hz] at h
   exact ⟨x,λw=>by simp [zeroValue,typeInfo,Sem.run_bind,hi,hz],(gK ρ 600).1 _ _ h⟩
theorem yU {f k:Nat} {fl:Field} (h:bI Pr t f=some fl) (hk:l6 Pr fl.type=some (k+1)):FA Pr t f fl.offset:=by
 intro a w;unfold bI at h
 split at h
 .rename_i fs hd;have hs:=jo hk w;simp [Instr.fieldAt,Sem.run_bind,run_underlying hd,h,Instr.sureAddr,fieldPlace,hs]
 .cases h
end
section
variable {β:Type} [Jn β] [JnOK β] {r:β} {Pr:Program} {m:Nat} {w0:Base} {w:World} {ty t:TypeId} {ρ:Ren} {σ:T V} {τ:Nat->Value} {h:T Blk} {n:P} {run:fG}
def Kx (w0:Base) (ρ:Ren) (r:β) (k:V->T Blk->P->Option β):Value->World->Prop:=λx w'=>∃ ρ' v h' n',ρ.le ρ'/\Rh w0 ρ' h' n' w'/\Rv ρ' v x/\k v h' n'=some r
theorem Pk (f:Fr ρ m σ τ) {x:Operand} {v:V} (e:aJ x σ=some v):∃ u,Ex Pr (ev m τ) w (.move x) ty u/\Rv ρ v u:=⟨_,ai rfl,av f e⟩
theorem FU (f:Fr ρ m σ τ) {x:Operand} {v:V} (e:aJ x σ=some v):∃ u,Ex Pr (ev m τ) w (.assign x) ty u/\Rv ρ v u:=⟨_,tN rfl,av f e⟩
theorem Pf (f:Fr ρ m σ τ) {c a b:Operand} {v:V} (e:on (aJ c σ) (V.onBool λt=>Bool.rec (aJ b σ) (aJ a σ) t)=some v):∃ u,Ex Pr (ev m τ) w (.pick c a b) ty u/\Rv ρ v u:=by
 simp only [ah,fB] at e;obtain ⟨_,hc,t,rfl,e⟩:=e;have hc':=av f hc;simp only [Rv] at hc'
 cases t with
 | true=>exact ⟨_,vY hc' rfl,av f e⟩
 | false=>exact ⟨_,xw hc' rfl,av f e⟩
theorem I8 {β:Type} {r:β} {f:List (List V)->Option β} {g:List Nat->Option β} {B:Blk} (e:Blk.on2 f g B=some r):(∃ t k o rs,B= .rows t k o rs/\f rs=some r)\/∃ l,B= .fz l/\g l=some r:=by
 cases B <;> first | exact .inl ⟨_,_,_,_,rfl,e⟩ | exact .inr ⟨_,rfl,e⟩ | cases e
theorem sK {b:P} {i j:Nat} {v:V} (e:lw b i j h=some v):l8 1 b i j h=some [v]\/∃ l c,T.get b h=some (.fz l)/\l[i]?=some c/\j=0/\v= .int .u8 (.ofNat c):=by
 unfold lw at e;rw [ah] at e;obtain ⟨B,hB,e⟩:=e
 rcases I8 e with ⟨t',k',o',rs,rfl,e1⟩ | ⟨l,rfl,e1⟩
 .refine .inl ?_;simp only [ah,gD] at e1;obtain ⟨row,h2,h3⟩:=e1;unfold l8 A9;rw [hB];show (Option.rec none (λrow=>bY 1 (dB j row)) (oN i rs):Option (List V))=_;simp only [gD,h2,dA]
  have:row.drop j=v::row.drop (j+1):=by
   rw [List.drop_eq_getElem_cons (List.getElem?_eq_some_iff.1 h3).1,(List.getElem?_eq_some_iff.1 h3).2]
  rw [this];rfl
 .simp only [aj,ah,gD] at e1;obtain ⟨hj,c,hc,e2⟩:=e1;cases e2
  exact .inr ⟨l,c,hB,hc,Nat.eq_of_beq_eq_true hj,rfl⟩
theorem Tq (H:Rh w0 ρ h n w) (hN:NA Pr t) {x:Operand} {cv:Value} (hx:ev m τ x=cv) {b:P} {i:Nat} (hv:Rv ρ (.ptr b i 0) cv) {l:List Nat} {c:Nat} (hB:T.get b h=some (.fz l)) (hc:l[i]?=some c):∃ u,Ex Pr (ev m τ) w (.load t x) ty u/\Rv ρ (.int .u8 (.ofNat c)) u:=by
 simp only [Rv] at hv;obtain ⟨L,hL,rfl⟩:=hv;obtain ⟨hk,arr,t',fr,ho,hr⟩:=H.live b _ L hB hL;refine ⟨.int .u8 (.ofNat c),qE hN hx ⟨arr,t',fr,ho,λj hj=>?_⟩,by simp only [Rv]⟩;have:j=0:=by simp at hj;exact hj
 subst this;rw [hk]
 simpa using hr i c hc
theorem GQ (H:Rh w0 ρ h n w) (f:Fr ρ m σ τ) {a:Operand} {g:Option Nat} (hg:fV Pr t=some g) {v:V} (e:(on (aJ a σ) λp=>l5 g p h)=some v):∃ u,Ex Pr (ev m τ) w (.load t a) ty u/\Rv ρ v u:=by
 rw [ah] at e;obtain ⟨p,hp,e⟩:=e;have hp':=av f hp
 cases g with
 | none=>
  have e:(V.onPtr (λb i j=>lw b i j h) p)=some v:=e
  rw [bE] at e
  obtain ⟨b,i,j,rfl,e⟩:=e
  rcases sK e with e | ⟨l,c,hB,hc,rfl,rfl⟩
  .exact Tg H (pD hg) rfl hp' e
  .exact Tq H (pD hg) rfl hp' hB hc
 | some k=>
  have e:(V.onPtr (λb i j=>on (l8 k b i j h) λl=>some (.agg l)) p)=some v:=e
  simp only [bE,ah] at e
  obtain ⟨b,i,j,rfl,l,hl,e⟩:=e
  cases e
  exact Tf H (uX hg) rfl hp' hl
theorem zg (f:Fr ρ m σ τ) {x:Operand} {s fi k:Nat} {fl:Field} (hf:bI Pr s fi=some fl) (hk:l6 Pr fl.type=some (k+1)) {v:V} (e:on (aJ x σ) (V.onPtr λb i j=>some (.ptr b i (Nat.add j fl.offset)))=some v):∃ u,Ex Pr (ev m τ) w (.fieldAddr s x fi) ty u/\Rv ρ v u:=by
 simp only [ah,bE] at e;obtain ⟨_,hx,b,i,j,rfl,e⟩:=e;cases e
 have hx':=av f hx;simp only [Rv] at hx';obtain ⟨L,hL,hx'⟩:=hx';refine ⟨_,DB (yU hf hk) hx',?_⟩;simp only [Rv];exact ⟨L,hL,by rw [Nat.add_assoc];rfl⟩
theorem DN (f:Fr ρ m σ τ) {x:Operand} {i:Nat} {v:V} (e:on (aJ x σ) (V.onTup λl=>oN i l)=some v):∃ u,Ex Pr (ev m τ) w (.extract x i) ty u/\Rv ρ v u:=by
 simp only [ah,sV,gD] at e;obtain ⟨_,hx,l,rfl,e⟩:=e;have hx':=av f hx;simp only [Rv] at hx';obtain ⟨a,ha,hr⟩:=hx';obtain ⟨y,hy,hv⟩:=hr.get' e;exact ⟨y,oQ ha (by rw [← Array.getElem?_toList];exact hy),hv⟩
theorem Ah (f:Fr ρ m σ τ) {g:FuncId} {a b:Array Operand} {v:V} (e:(on (gq a.toList σ) λa=>on (gq b.toList σ) λb=>some (.fn g a b))=some v):∃ u,Ex Pr (ev m τ) w (.makeFunc (.func g) a b) ty u/\Rv ρ v u:=by
 simp only [ah] at e;obtain ⟨x,hx,y,hy,e⟩:=e;cases e
 refine ⟨.func (.func g) (a.map (ev m τ)) (b.map (ev m τ)),λ_ _ _ _=>by simp [execOp,Instr.makeFunc],?_⟩;simp only [Rv];exact ⟨_,_,rfl,by rw [Array.toList_map];exact dS f hx,by rw [Array.toList_map];exact dS f hy⟩
theorem BB (f:Fr ρ m σ τ) {x:Operand} {v:V} (e:on (aJ x σ) Oq=some v):∃ u,Ex Pr (ev m τ) w (.nilCheck x) ty u/\Rv ρ v u:=by
 rw [ah] at e;obtain ⟨p,hp,e⟩:=e;have hp':=av f hp;have hv:p=v:=by cases p <;> first | (cases e;done) | (cases e;rfl)
 subst hv;refine ⟨_,λ_ _ _ _=>?_,hp'⟩;cases p <;> first | (cases e;done) | skip
 all_goals simp only [Rv] at hp'
 all_goals first | (rename_i b;cases b;simp [execOp,hp'];done) | (simp [execOp,hp'];done) | (obtain ⟨_,hp',_⟩:=hp';simp [execOp,hp'];done) | (obtain ⟨_,_,hp'⟩:=hp';simp [execOp,hp'];done) | (obtain ⟨_,_,hp',_⟩:=hp';simp [execOp,hp'];done) | (obtain ⟨_,_,_,hp',_⟩:=hp';simp [execOp,hp'];done) | (obtain ⟨_,_,_,_,hp',_⟩:=hp';simp [execOp,hp'];done)
end
end Go.Lk
