/- A lean reckoner for closed runs: arithmetic and comparisons stand. Over any program. -/
import Derived.Test.YtljfgmedbjlkaaaGreatLkG
import Derived.ArgAppend
namespace Go.Lk
open Go.Eng Go.RowKit
theorem cu {k j:IntKind} (h:Nat.beq (aM k) (aM j)=true):k=j:=by cases k <;> cases j <;> first | rfl | (exact absurd h (by decide))
theorem lC {a b:ByteArray} (h:aH a=aH b):a=b:=by
 unfold aH at h
 have h1:a.data.toList=b.data.toList:=by
  have inj:Function.Injective UInt8.toNat:=λx y e=>UInt8.toNat_inj.1 e;exact List.map_inj_right (λx y e=>inj e) |>.1 h
 obtain ⟨x⟩:=a;obtain ⟨y⟩:=b;have:x=y:=Array.toList_inj.1 h1;rw [this]
theorem aX (s:ByteArray):(aH s).length=s.size:=by simp [aH]
theorem sM (a b:ByteArray):aH (a++b)=aH a++aH b:=by simp [aH]
theorem uF (a b:ByteArray):zI (aH a) (aH b)=(a.toList == b.toList):=by
 rw [o8,ByteArray.toList_eq,ByteArray.toList_eq]
 by_cases h:a=b
 .subst h;simp
 .have h1:aH a≠aH b:=λe=>h (lC e);have h2:a.data.toList≠b.data.toList:=λe=>h1 (by unfold aH;rw [e]);rw [decide_eq_false h1];symm;simpa using h2
theorem C5:∀ (a b:List UInt8),JG (a.map (·.toNat)) (b.map (·.toNat))=Op.bytesLess a b
 | [],[]=>rfl
 | [],_::_=>rfl
 | _::_,[]=>rfl
 | x::a,y::b=>by
  show (Bool.rec (Bool.rec false (JG (a.map (·.toNat)) (b.map (·.toNat))) (Nat.beq x.toNat y.toNat)) true (Nat.blt x.toNat y.toNat):Bool)=(x<y || (x == y && Op.bytesLess a b));rw [C5 a b,dm,jf];have h1:decide (x<y)=decide (x.toNat<y.toNat):=decide_eq_decide.2 UInt8.lt_iff_toNat_lt
  have h2:(x == y)=decide (x.toNat=y.toNat):=by
   by_cases h:x=y
   .subst h;simp
   .have:x.toNat≠y.toNat:=λe=>h (UInt8.toNat_inj.1 e);rw [decide_eq_false this];simpa using h
  rw [h1,h2];cases decide (x.toNat<y.toNat) <;> cases decide (x.toNat=y.toNat) <;> simp
theorem lU (a b:ByteArray):JG (aH a) (aH b)=Op.bytesLess a.toList b.toList:=by
 rw [ByteArray.toList_eq,ByteArray.toList_eq];exact C5 _ _
theorem gN:∀ (a b:List UInt8),(Op.bytesLess a b || a == b)=!Op.bytesLess b a
 | [],[]=>rfl
 | [],_::_=>rfl
 | _::_,[]=>rfl
 | x::a,y::b=>by
  have ih:=gN a b;show ((x<y || (x == y && Op.bytesLess a b)) || (x::a) == (y::b))=!((y<x:Bool) || (y == x && Op.bytesLess b a))
  by_cases h1:x<y
  .have h2:¬ y<x:=by rw [UInt8.lt_iff_toNat_lt] at *;omega
   have h3:(y == x)=false:=by simp;rintro rfl;rw [UInt8.lt_iff_toNat_lt] at h1;omega
   simp [h1,h2,h3]
  .by_cases h2:y<x
   .have h3:(x == y)=false:=by simp;rintro rfl;rw [UInt8.lt_iff_toNat_lt] at h2;omega
    simp [h1,h2,h3]
   .have h3:x=y:=by rw [UInt8.lt_iff_toNat_lt] at h1 h2;exact UInt8.toNat_inj.1 (by omega)
    subst h3;simp [h1]
    simpa using ih
section
variable {ρ:Ren} {Pr:Program} {m:Nat} {w:World} {ty t t':TypeId} {σ:T V} {τ:Nat->Value}
theorem FI {op:BinOp} {x y:Operand} {X Y u:Value} (hx:ev m τ x=X) (hy:ev m τ y=Y) (hg:(eqGuard op t x y X Y).run Pr w= .ok () w) (hb:(binOp op t X Y).run Pr w= .ok u w):Ex Pr (ev m τ) w (.binOp op t x y t') ty u:=by
 subst hx hy;intro _ _ _ _;simp only [execOp,Sem.run_bind,hg,hb,Result.andThen_ok,Sem.run_pure]
theorem Ol {op:BinOp} (h:op≠.eql/\op≠.neq) {x y:Operand} {X Y:Value}:(eqGuard op t x y X Y).run Pr w= .ok () w:=by
 cases op <;> first | (exact absurd rfl h.1) | (exact absurd rfl h.2) | (simp [eqGuard])
theorem dO {op:BinOp} {x y:Operand} {X Y:Value} (h1:∀ cs,X≠.agg cs) (h2:X≠.nilIface):(eqGuard op t x y X Y).run Pr w= .ok () w:=by
 unfold eqGuard;cases X <;> first | exact absurd rfl (h1 _) | exact absurd rfl h2 | (cases op <;> simp)
theorem kR {v u:V} {x y:Value} {r:Bool} (e:jV v u=some r) (hx:Rv ρ v x) (hy:Rv ρ u y):(∃ k a b,x= .int k a/\y= .int k b/\r=decide (a=b))\/(∃ a b,x= .bool a/\y= .bool b/\r=(a == b))\/∃ a b,x= .string a/\y= .string b/\r=(a.toList == b.toList):=by
 cases v <;> first | (cases e;done) | skip
 case int k a=>
  replace e:V.onInt (λj y=>Bool.rec none (some (JH a y)) (Nat.beq (aM k) (aM j))) u=some r:=e
  simp only [aK,aj] at e
  obtain ⟨j,b,rfl,hk,e⟩:=e
  cases e
  have:=cu hk;subst this
  simp only [Rv] at hx hy
  exact .inl ⟨k,a,b,hx,hy,tO a b⟩
 case bool a=>
  replace e:V.onBool (λb=>some (Bool.rec (dP b) b a)) u=some r:=e
  simp only [fB] at e
  obtain ⟨b,rfl,e⟩:=e
  cases e
  simp only [Rv] at hx hy
  exact .inr (.inl ⟨a,b,hx,hy,by cases a <;> cases b <;> rfl⟩)
 case str a=>
  replace e:V.onStr (λb=>some (zI a b)) u=some r:=e
  simp only [bV] at e
  obtain ⟨b,rfl,e⟩:=e
  cases e
  simp only [Rv] at hx hy
  obtain ⟨s,hs,rfl⟩:=hx
  obtain ⟨s',hs',rfl⟩:=hy
  exact .inr (.inr ⟨s,s',hs,hs',uF s s'⟩)
theorem lh {p q r:Bool} {o:Option Ordering}:I5 p q r o=(match o with | none=>false | some .lt=>p | some .eq=>q | some .gt=>r):=by
 cases o with
 | none=>rfl
 | some o=>cases o <;> rfl
theorem Ep {v u r:V} (e:Qw v u=some r):(∃ k a b,v= .int k a/\u= .int k b/\r= .int k (k.wrap (a+b)))\/(∃ a b,v= .str a/\u= .str b/\a.length+b.length<=1000000/\r= .str (a++b))\/∃ a b c,v= .flt a/\u= .flt b/\Flt.D.add a b=some c/\r= .flt c:=by
 cases v <;> first | (cases e;done) | skip
 case int k a=>
  replace e:V.onInt (λj y=>Bool.rec none (some (.int k (Lu k a y))) (Nat.beq (aM k) (aM j))) u=some r:=e
  simp only [aK,aj] at e
  obtain ⟨j,b,rfl,hk,e⟩:=e
  cases e
  have:=cu hk;subst this
  exact .inl ⟨k,a,b,rfl,rfl,by rw [JY]⟩
 case str a=>
  replace e:V.onStr (λb=>Bool.rec none (some (.str (fF a b))) (Nat.ble (Nat.add (bR a) (bR b)) 1000000)) u=some r:=e
  simp only [bV,aj,bO] at e
  obtain ⟨b,rfl,hl,e⟩:=e
  cases e
  exact .inr (.inl ⟨a,b,rfl,rfl,Nat.le_of_ble_eq_true hl,by rw [il]⟩)
 case flt a=>
  replace e:V.onFlt (λb=>on (Flt.D.add a b) λr=>some (.flt r)) u=some r:=e
  cases u <;> first | (cases e;done) | skip
  rename_i b
  replace e:on (Flt.D.add a b) (λr=>some (V.flt r))=some r:=e
  rw [ah] at e
  obtain ⟨c,hc,e⟩:=e
  cases e
  exact .inr (.inr ⟨a,b,c,rfl,rfl,hc,rfl⟩)
theorem sw {f:IntKind->Int->Int->Option V} {g:Nat->Nat->Option Nat} {v u r:V} (e:RB f g v u=some r):(∃ k a b,v= .int k a/\u= .int k b/\f k a b=some r)\/∃ a b c,v= .flt a/\u= .flt b/\g a b=some c/\r= .flt c:=by
 cases v <;> first | (cases e;done) | skip
 case int k a=>
  replace e:V.onInt (λj y=>Bool.rec none (f k a y) (Nat.beq (aM k) (aM j))) u=some r:=e
  simp only [aK,aj] at e
  obtain ⟨j,b,rfl,hk,e⟩:=e
  have:=cu hk;subst this
  exact .inl ⟨k,a,b,rfl,rfl,e⟩
 case flt a=>
  replace e:V.onFlt (λb=>on (g a b) λr=>some (.flt r)) u=some r:=e
  cases u <;> first | (cases e;done) | skip
  rename_i b
  replace e:on (g a b) (λr=>some (V.flt r))=some r:=e
  rw [ah] at e
  obtain ⟨c,hc,e⟩:=e
  cases e
  exact .inr ⟨a,b,c,rfl,rfl,hc,rfl⟩
theorem lL {f:IntKind->Int->Int->V} {v u r:V} (e:Ee f v u=some r):∃ k a b,v= .int k a/\u= .int k b/\r=f k a b:=by
 unfold Ee at e;simp only [aK,aj] at e;obtain ⟨k,a,rfl,j,b,rfl,hk,e⟩:=e;cases e
 have:=cu hk;subst this;exact ⟨k,a,b,rfl,rfl,rfl⟩
theorem D7 {f:IntKind->Int->Int->V} {v u r:V} (e:Ny f v u=some r):∃ k a b,v= .int k a/\u= .int k b/\b≠0/\r=f k a b:=by
 unfold Ny at e;simp only [aK,aj,jq] at e;obtain ⟨k,a,rfl,j,b,rfl,hk,h0,e⟩:=e;cases e
 have:=cu hk;subst this;rw [tO] at h0;exact ⟨k,a,b,rfl,rfl,of_decide_eq_false h0,rfl⟩
theorem xV {f:IntKind->Int->Int->V} {v u r:V} (e:Rq f v u=some r):∃ k j a b,v= .int k a/\u= .int j b/\¬ b<0/\r=f k a b:=by
 unfold Rq at e;simp only [aK,jq] at e;obtain ⟨k,a,rfl,j,b,rfl,h0,e⟩:=e;cases e
 rw [mK] at h0;exact ⟨k,j,a,b,rfl,rfl,of_decide_eq_false h0,rfl⟩
theorem lT {fi:Int->Int->Bool} {fs:List Nat->List Nat->Bool} {ff:Option Ordering->Bool} {v u r:V} (e:Gu fi fs ff v u=some r) :
  (∃ k a b,v= .int k a/\u= .int k b/\r= .bool (fi a b))\/(∃ a b,v= .str a/\u= .str b/\r= .bool (fs a b))\/∃ a b,v= .flt a/\u= .flt b/\r= .bool (ff (Flt.D.order a b)):=by
 cases v <;> first | (cases e;done) | skip
 case int k a=>
  replace e:V.onInt (λj y=>Bool.rec none (some (.bool (fi a y))) (Nat.beq (aM k) (aM j))) u=some r:=e
  simp only [aK,aj] at e
  obtain ⟨j,b,rfl,hk,e⟩:=e
  cases e
  have:=cu hk;subst this
  exact .inl ⟨k,a,b,rfl,rfl,rfl⟩
 case str a=>
  replace e:V.onStr (λb=>some (.bool (fs a b))) u=some r:=e
  simp only [bV] at e
  obtain ⟨b,rfl,e⟩:=e
  cases e
  exact .inr (.inl ⟨a,b,rfl,rfl,rfl⟩)
 case flt a=>
  replace e:V.onFlt (λb=>some (.bool (ff (Flt.D.order a b)))) u=some r:=e
  cases u <;> first | (cases e;done) | (cases e;exact .inr (.inr ⟨_,_,rfl,rfl,rfl⟩))
end
end Go.Lk
namespace Go.Lk
open Go.Eng Go.RowKit
theorem Lr (k:IntKind) (x y:Int):NV k x y=k.wrap (x-y):=by
 unfold NV
 cases x with
 | negSucc a=>rfl
 | ofNat a=>cases y with
  | negSucc b=>rfl
  | ofNat b=>
   show (Bool.rec (k.wrap (Int.ofNat a-Int.ofNat b)) (Int.ofNat (Nat.sub a b)) (Bool.rec false (Nat.ble a 127) (Nat.ble b a)):Int)=_
   cases h:Nat.ble b a with
   | false=>rfl
   | true=>
    cases h':Nat.ble a 127 with
    | false=>rfl
    | true=>
     have h1:=Nat.le_of_ble_eq_true h
     have h2:=Nat.le_of_ble_eq_true h'
     have h3:Int.ofNat a-Int.ofNat b=Int.ofNat (a-b):=by
      show (a:Int)-(b:Int)=((a-b:Nat):Int);rw [Int.natCast_sub h1]
     rw [h3]
     exact (iO k (Nat.le_trans (Nat.sub_le a b) h2)).symm
section
variable {ρ:Ren} {Pr:Program} {m:Nat} {w:World} {ty t t':TypeId} {σ:T V} {τ:Nat->Value}
theorem Sv {op:BinOp} (hop:op≠.eql/\op≠.neq) {c:Bool} {x y:Operand} {a b v:V} {X Y:Value} (hX:ev m τ x=X) (hY:ev m τ y=Y) (hx:Rv ρ a X) (hy:Rv ρ b Y) (e:zD Pr t c op a b=some v):∃ u,Ex Pr (ev m τ) w (.binOp op t x y t') ty u/\Rv ρ v u:=by
 have g:=Ol (Pr:=Pr) (w:=w) (t:=t) hop (x:=x) (y:=y) (X:=X) (Y:=Y);have done:∀ u,(binOp op t X Y).run Pr w= .ok u w->Rv ρ v u->∃ u,Ex Pr (ev m τ) w (.binOp op t x y t') ty u/\Rv ρ v u:=λu h1 h2=>⟨u,FI hX hY g h1,h2⟩
 have ints:∀ k p q,(∃ u,(binOp op t (.int k p) (.int k q)).run Pr w= .ok u w/\Rv ρ v u)->a= .int k p->b= .int k q->∃ u,Ex Pr (ev m τ) w (.binOp op t x y t') ty u/\Rv ρ v u:=by
  rintro k p q ⟨u,h1,h2⟩ rfl rfl;simp only [Rv] at hx hy;subst hx hy;exact done u h1 h2
 cases op
 case eql=>exact absurd rfl hop.1
 case neq=>exact absurd rfl hop.2
 case add=>
  rcases Ep e with ⟨k,p,q,rfl,rfl,rfl⟩ | ⟨p,q,rfl,rfl,hl,rfl⟩ | ⟨p,q,r,rfl,rfl,hr,rfl⟩
  .exact ints k p q ⟨.int k (k.wrap (p+q)),by simp [binOp,Op.intArith],by simp only [Rv]⟩ rfl rfl
  .simp only [Rv] at hx hy
   obtain ⟨s,rfl,rfl⟩:=hx
   obtain ⟨s',rfl,rfl⟩:=hy
   rw [aX,aX] at hl
   refine ⟨_,bM hX hY (by omega),?_⟩
   simp only [Rv]
   exact ⟨_,rfl,sM s s'⟩
  .simp only [Rv] at hx hy
   subst hx hy
   exact ⟨.float .f64 r,by
    intro _ _ _ _;have h':FloatKind.f64.format.add p q=some r:=hr
    simp [execOp,hX,hY,eqGuard,binOp,Op.floatArith,h'],by simp only [Rv]⟩
 case sub=>
  rcases sw e with ⟨k,p,q,rfl,rfl,h3⟩ | ⟨p,q,r,rfl,rfl,hr,rfl⟩
  .cases h3
   exact ints k p q ⟨.int k (k.wrap (p-q)),by simp [binOp,Op.intArith],by simp only [Rv];rw [Lr]⟩ rfl rfl
  .simp only [Rv] at hx hy
   subst hx hy
   exact ⟨.float .f64 r,by
    intro _ _ _ _;have h':FloatKind.f64.format.sub p q=some r:=hr
    simp [execOp,hX,hY,eqGuard,binOp,Op.floatArith,h'],by simp only [Rv]⟩
 case mul=>
  rcases sw e with ⟨k,p,q,rfl,rfl,h3⟩ | ⟨p,q,r,rfl,rfl,hr,rfl⟩
  .cases h3
   exact ints k p q ⟨.int k (k.wrap (p * q)),by simp [binOp,Op.intArith],by simp only [Rv]⟩ rfl rfl
  .simp only [Rv] at hx hy
   subst hx hy
   exact ⟨.float .f64 r,by
    intro _ _ _ _;have h':FloatKind.f64.format.mul p q=some r:=hr
    simp [execOp,hX,hY,eqGuard,binOp,Op.floatArith,h'],by simp only [Rv]⟩
 case quo=>
  rcases sw e with ⟨k,p,q,rfl,rfl,h3⟩ | ⟨p,q,r,rfl,rfl,hr,rfl⟩
  .rw [jq,tO] at h3
   obtain ⟨h0,h3⟩:=h3
   cases h3
   have h0:=of_decide_eq_false h0
   exact ints k p q ⟨.int k (k.wrap (p.tdiv q)),by simp [binOp,Op.intDiv,h0],by simp only [Rv]⟩ rfl rfl
  .simp only [Rv] at hx hy
   subst hx hy
   exact ⟨.float .f64 r,by
    intro _ _ _ _;have h':FloatKind.f64.format.div p q=some r:=hr
    simp [execOp,hX,hY,eqGuard,binOp,Op.floatArith,h'],by simp only [Rv]⟩
 case rem=>
  obtain ⟨k,p,q,rfl,rfl,h0,rfl⟩:=D7 e
  exact ints k p q ⟨.int k (p.tmod q),by simp [binOp,Op.intDiv,h0],by simp only [Rv]⟩ rfl rfl
 case and=>
  obtain ⟨k,p,q,rfl,rfl,rfl⟩:=lL e
  exact ints k p q ⟨.int k (k.wrap (BitVec.ofInt k.bits p &&& BitVec.ofInt k.bits q).toNat),by simp [binOp,Op.intBits],by simp only [Rv]⟩ rfl rfl
 case or=>
  obtain ⟨k,p,q,rfl,rfl,rfl⟩:=lL e
  exact ints k p q ⟨.int k (k.wrap (BitVec.ofInt k.bits p ||| BitVec.ofInt k.bits q).toNat),by simp [binOp,Op.intBits],by simp only [Rv]⟩ rfl rfl
 case xor=>
  obtain ⟨k,p,q,rfl,rfl,rfl⟩:=lL e
  exact ints k p q ⟨.int k (k.wrap (BitVec.ofInt k.bits p ^^^ BitVec.ofInt k.bits q).toNat),by simp [binOp,Op.intBits],by simp only [Rv]⟩ rfl rfl
 case andNot=>
  obtain ⟨k,p,q,rfl,rfl,rfl⟩:=lL e
  exact ints k p q ⟨.int k (k.wrap (BitVec.ofInt k.bits p &&& ~~~ BitVec.ofInt k.bits q).toNat),by simp [binOp,Op.intBits],by simp only [Rv]⟩ rfl rfl
 case shl=>
  obtain ⟨k,j,p,q,rfl,rfl,h0,rfl⟩:=xV e
  simp only [Rv] at hx hy
  subst hx hy
  exact done (.int k (k.wrap (p * 2 ^ (min q.toNat k.bits)))) (by simp [binOp,Op.shift,h0]) (by simp only [Rv])
 case shr=>
  obtain ⟨k,j,p,q,rfl,rfl,h0,rfl⟩:=xV e
  simp only [Rv] at hx hy
  subst hx hy
  exact done (.int k (p.fdiv (2 ^ (min q.toNat k.bits)))) (by simp [binOp,Op.shift,h0]) (by simp only [Rv])
 case lss=>
  rcases lT e with ⟨k,p,q,rfl,rfl,rfl⟩ | ⟨p,q,rfl,rfl,rfl⟩ | ⟨p,q,rfl,rfl,rfl⟩
  .exact ints k p q ⟨.bool (decide (p<q)),by simp [binOp,Op.intCmp],by simp only [Rv];rw [mK]⟩ rfl rfl
  .simp only [Rv] at hx hy
   obtain ⟨s,rfl,rfl⟩:=hx
   obtain ⟨s',rfl,rfl⟩:=hy
   exact done (.bool (Op.bytesLess s.toList s'.toList)) (by simp [binOp,Op.stringOp]) (by simp only [Rv];rw [lU])
  .simp only [Rv] at hx hy
   subst hx hy
   refine ⟨_,NE hX hY,?_⟩
   simp only [Rv];rw [lh]
   cases Flt.D.order p q with
   | none=>rfl
   | some o=>cases o <;> rfl
 case leq=>
  rcases lT e with ⟨k,p,q,rfl,rfl,rfl⟩ | ⟨p,q,rfl,rfl,rfl⟩ | ⟨p,q,rfl,rfl,rfl⟩
  .refine ints k p q ⟨.bool (decide (p<=q)),by simp [binOp,Op.intCmp],?_⟩ rfl rfl
   simp only [Rv];rw [mK];congr 1
   by_cases h:q<p
   .simp [h,dP] <;> omega
   .simp [h,dP] <;> omega
  .simp only [Rv] at hx hy
   obtain ⟨s,rfl,rfl⟩:=hx
   obtain ⟨s',rfl,rfl⟩:=hy
   refine done (.bool (Op.bytesLess s.toList s'.toList || s.toList == s'.toList)) (by simp [binOp,Op.stringOp]) ?_
   simp only [Rv];rw [lU,gN]
   cases Op.bytesLess s'.toList s.toList <;> rfl
  .simp only [Rv] at hx hy
   subst hx hy
   refine ⟨_,OW hX hY,?_⟩
   simp only [Rv];rw [lh]
   cases Flt.D.order p q with
   | none=>rfl
   | some o=>cases o <;> rfl
 case gtr=>
  rcases lT e with ⟨k,p,q,rfl,rfl,rfl⟩ | ⟨p,q,rfl,rfl,rfl⟩ | ⟨p,q,rfl,rfl,rfl⟩
  .exact ints k p q ⟨.bool (decide (q<p)),by simp [binOp,Op.intCmp],by simp only [Rv];rw [mK]⟩ rfl rfl
  .simp only [Rv] at hx hy
   obtain ⟨s,rfl,rfl⟩:=hx
   obtain ⟨s',rfl,rfl⟩:=hy
   refine done (.bool (!(Op.bytesLess s.toList s'.toList || s.toList == s'.toList))) (by simp [binOp,Op.stringOp]) ?_
   simp only [Rv];rw [lU,gN];simp
  .simp only [Rv] at hx hy
   subst hx hy
   refine ⟨_,NH hX hY,?_⟩
   simp only [Rv];rw [lh]
   cases Flt.D.order p q with
   | none=>rfl
   | some o=>cases o <;> rfl
 case geq=>
  rcases lT e with ⟨k,p,q,rfl,rfl,rfl⟩ | ⟨p,q,rfl,rfl,rfl⟩ | ⟨p,q,rfl,rfl,rfl⟩
  .refine ints k p q ⟨.bool (decide (q<=p)),by simp [binOp,Op.intCmp],?_⟩ rfl rfl
   simp only [Rv];rw [mK];congr 1
   by_cases h:p<q
   .simp [h,dP] <;> omega
   .simp [h,dP] <;> omega
  .simp only [Rv] at hx hy
   obtain ⟨s,rfl,rfl⟩:=hx
   obtain ⟨s',rfl,rfl⟩:=hy
   refine done (.bool (!Op.bytesLess s.toList s'.toList)) (by simp [binOp,Op.stringOp]) ?_
   simp only [Rv];rw [lU]
   cases Op.bytesLess s.toList s'.toList <;> rfl
  .simp only [Rv] at hx hy
   subst hx hy
   refine ⟨_,Pe hX hY,?_⟩
   simp only [Rv];rw [lh]
   cases Flt.D.order p q with
   | none=>rfl
   | some o=>cases o <;> rfl
theorem RT (f:Fr ρ m σ τ) {op:UnOp} {x:Operand} {v:V} (e:on (aJ x σ) (R7 op)=some v) (hop:op= .not\/op= .neg\/op= .xor):∃ u,Ex Pr (ev m τ) w (.unOp op t x) ty u/\Rv ρ v u:=by
 rw [ah] at e;obtain ⟨a,ha,e⟩:=e;have hx:=av f ha
 rcases hop with rfl | rfl | rfl
 .replace e:V.onBool (λb=>some (.bool (dP b))) a=some v:=e
  rw [fB] at e;obtain ⟨b,rfl,e⟩:=e;cases e
  simp only [Rv] at hx;exact ⟨_,bF hx,by simp only [Rv];cases b <;> rfl⟩
 .replace e:V.onInt (λk x=>some (.int k (k.wrap (0-x)))) a=some v:=e
  rw [aK] at e;obtain ⟨k,b,rfl,e⟩:=e;cases e
  simp only [Rv] at hx;exact ⟨.int k (k.wrap (0-b)),λ_ _ _ _=>by simp [execOp,hx,Op.unary,Op.intArith],by simp only [Rv]⟩
 .replace e:V.onInt (λk x=>some (.int k (k.wrap (BitVec.ofInt k.bits (if k.signed=true then -1 else k.max) ^^^ BitVec.ofInt k.bits x).toNat))) a=some v:=e
  rw [aK] at e;obtain ⟨k,b,rfl,e⟩:=e;cases e
  simp only [Rv] at hx;exact ⟨.int k (k.wrap (BitVec.ofInt k.bits (if k.signed=true then -1 else k.max) ^^^ BitVec.ofInt k.bits b).toNat),λ_ _ _ _=>by simp [execOp,hx,Op.unary,Op.intBits],by simp only [Rv]⟩
end
end Go.Lk
namespace Go.Lk
open Go.Eng Go.RowKit
section
variable {ρ:Ren} {Pr:Program}
theorem jF {v u:V} {x y:Value} {r:Bool} (e:jV v u=some r) (hx:Rv ρ v x) (hy:Rv ρ u y):r=true↔x=y:=by
 rcases kR e hx hy with ⟨k,a,b,rfl,rfl,rfl⟩ | ⟨a,b,rfl,rfl,rfl⟩ | ⟨a,b,rfl,rfl,rfl⟩
 .simp
 .simp
 .rw [← uF,o8,decide_eq_true_iff];exact ⟨λh=>by rw [lC h],λh=>by injection h with h;rw [h]⟩
theorem p9:∀ {l m:List V} {xs ys:List Value} {r:Bool},qL l m=some r->Rvs ρ l xs->Rvs ρ m ys->(r=true↔xs=ys)
 | [],[],xs,ys,r,e,hx,hy=>by
  have e:(some true:Option Bool)=some r:=e;cases e
  simp only [Rvs] at hx hy;simp [hx,hy]
 | [],_::_,xs,ys,r,e,hx,hy=>by cases e
 | _::_,[],xs,ys,r,e,hx,hy=>by cases e
 | v::l,u::m,xs,ys,r,e,hx,hy=>by
  have e:(on (jV v u) λp=>on (qL l m) λq=>some (Bool.rec false q p))=some r:=e;simp only [ah] at e;obtain ⟨p,hp,q,hq,e⟩:=e;cases e
  simp only [Rvs] at hx hy;obtain ⟨x,xs,rfl,hx,hxs⟩:=hx;obtain ⟨y,ys,rfl,hy,hys⟩:=hy;have h1:=jF hp hx hy;have h2:=p9 hq hxs hys
  cases p with
  | true=>simp only [List.cons.injEq];rw [h2];simp [h1.1 rfl]
  | false=>
   have:x≠y:=λh=>by have:=h1.2 h;cases this
   simp [this]
theorem uE {v u:V} {x y:Value} {r:Bool} (e:nP v u=some r) (hx:Rv ρ v x) (hy:Rv ρ u y):r=true↔x=y:=by
 cases v
 case int k a=>exact jF (v:=.int k a) e hx hy
 case bool a=>exact jF (v:=.bool a) e hx hy
 case str a=>exact jF (v:=.str a) e hx hy
 all_goals first | (cases e;done) | skip
 rename_i l
 replace e:V.onAgg (λm=>qL l m) u=some r:=e
 rw [mB] at e;obtain ⟨m,rfl,e⟩:=e;simp only [Rv] at hx hy;obtain ⟨a,rfl,ha⟩:=hx;obtain ⟨b,rfl,hb⟩:=hy;rw [p9 e ha hb];exact ⟨λh=>by rw [Array.toList_inj.1 h],λh=>by injection h with h;rw [h]⟩
theorem JB {n:Nat} {f:Nat->Bool}:IX n f=true↔∀ i<n,f i=true:=by
 induction n with
 | zero=>exact ⟨λ_ i h=>absurd h (by omega),λ_=>rfl⟩
 | succ n ih=>
  have:IX (n+1) f=(Bool.rec false (IX n f) (f n):Bool):=rfl
  rw [this]
  cases h:f n with
  | false=>exact ⟨λe=>(by cases e),λe=>by rw [e n (Nat.lt_succ_self n)] at h;cases h⟩
  | true=>
   rw [ih]
   exact ⟨λe i hi=>by rcases Nat.lt_succ_iff_lt_or_eq.1 hi with h' | rfl;exact e i h';exact h,λe i hi=>e i (by omega)⟩
theorem IP {fs:List Field} {f:Field->Bool}:Gy fs f=true↔∀ x ∈ fs,f x=true:=by
 induction fs with
 | nil=>exact ⟨λ_ i h=>(by cases h),λ_=>rfl⟩
 | cons x fs ih=>
  have:Gy (x::fs) f=(Bool.rec false (Gy fs f) (f x):Bool):=rfl
  rw [this]
  cases h:f x with
  | false=>exact ⟨λe=>(by cases e),λe=>by rw [e x (List.mem_cons_self)] at h;cases h⟩
  | true=>
   rw [ih]
   exact ⟨λe y hy=>by rcases List.mem_cons.1 hy with rfl | h';exact h;exact e y h',λe y hy=>e y (List.mem_cons_of_mem _ hy)⟩
theorem xZ {l:List V} {xs:List Value} (h:Rvs ρ l xs) {o k:Nat} {f:List V->Bool} (e:EZ o k f l=true):∃ r,f r=true/\Rvs ρ r ((xs.drop o).take k):=by
 unfold EZ at e;rw [dA] at e
 cases ht:bY k (l.drop o) with
 | none=>rw [ht] at e;cases e
 | some r=>
  rw [ht] at e
  obtain ⟨_,rfl⟩:=bL _ _ _ ht
  exact ⟨_,e,((h.split o).2.split k).1⟩
theorem pJ {f:V->Bool} {l:List V}:Cx f l=true↔∃ v,l=[v]/\f v=true:=by
 match l with
 | []=>exact ⟨λh=>(by cases h),λ⟨_,h,_⟩=>(by cases h)⟩
 | [v]=>exact ⟨λh=>⟨v,rfl,h⟩,λ⟨_,h,h'⟩=>by cases h;exact h'⟩
 | _::_::_=>exact ⟨λh=>(by cases h),λ⟨_,h,_⟩=>(by cases h)⟩
theorem ll {α β:Type} {f:α->Option β}:∀ {l:List α},(∀ x ∈ l,∃ y,f x=some y)->∃ ys,l.mapM f=some ys
 | [],_=>⟨[],rfl⟩
 | x::l,h=>by
  obtain ⟨y,hy⟩:=h x List.mem_cons_self;obtain ⟨ys,hys⟩:=ll (l:=l) λz hz=>h z (List.mem_cons_of_mem _ hz);exact ⟨y::ys,by simp [List.mapM_cons,hy,hys]⟩
theorem xM {v:V} {x:Value} (h:Sg v=true) (hx:Rv ρ v x):∃ b,x= .bool b:=by
 cases v <;> first | (simp only [Rv] at hx;exact ⟨_,hx⟩) | cases h
theorem GL {v:V} {x:Value} (h:isS v=true) (hx:Rv ρ v x):∃ s,x= .string s/\s.size<=1000000:=by
 cases v <;> first | (cases h;done) | skip
 rename_i l;simp only [Rv] at hx;obtain ⟨s,rfl,rfl⟩:=hx;have h:Nat.ble (bR (aH s)) 1000000=true:=h;rw [bO,aX] at h;exact ⟨s,rfl,Nat.le_of_ble_eq_true h⟩
theorem Fy {q:IntKind} {x:Int} (h:RC q x=true):Lit.wf (.int q x)=true:=by
 cases x with
 | negSucc a=>exact h
 | ofNat a=>
  have h:(Bool.rec (Lit.wf (.int q (Int.ofNat a))) true (Nat.ble a 127):Bool)=true:=h
  cases hb:Nat.ble a 127 with
  | false=>rw [hb] at h;exact h
  | true=>
   have h1:=Nat.le_of_ble_eq_true hb
   have:∀ a,a<128->Lit.wf (.int q (Int.ofNat a))=true:=by cases q <;> decide
   exact this a (by omega)
theorem xC {q:IntKind} {v:V} {x:Value} (h:Sw q v=true) (hx:Rv ρ v x):∃ a,x= .int q a/\Lit.wf (.int q a)=true:=by
 cases v <;> first | (cases h;done) | skip
 rename_i k a;simp only [Rv] at hx;have h:(Bool.rec false (RC q a) (Nat.beq (aM k) (aM q)):Bool)=true:=h
 cases hk:Nat.beq (aM k) (aM q) with
 | false=>rw [hk] at h;cases h
 | true=>
  rw [hk] at h
  have:=cu hk;subst this
  exact ⟨a,hx,Fy h⟩
theorem oO:∀ (D:Nat) (t:TypeId) (l:List V) (xs:List Value),KT Pr D t l=true->Rvs ρ l xs->∃ ls,Pr.keyLits D t xs=some ls
 | 0,t,l,xs,h,hx=>by simp [KT] at h
 | D+1,t,l,xs,h,hx=>by
  unfold KT at h;unfold Program.keyLits;have len:=hx.length
  cases hu:Pr.underlying t with
  | none=>rw [hu] at h;cases h
  | some d=>
   rw [hu] at h
   cases d <;> simp only at h <;> first | (cases h;done) | skip
   case bool=>
    obtain ⟨v,rfl,h⟩:=pJ.1 h
    simp only [Rvs] at hx
    obtain ⟨x,r,rfl,hv,rfl⟩:=hx
    obtain ⟨b,rfl⟩:=xM h hv
    exact ⟨_,rfl⟩
   case int q=>
    obtain ⟨v,rfl,h⟩:=pJ.1 h
    simp only [Rvs] at hx
    obtain ⟨x,r,rfl,hv,rfl⟩:=hx
    obtain ⟨b,rfl,hw⟩:=xC h hv
    exact ⟨_,by simp [hw];rfl⟩
   case string=>
    obtain ⟨v,rfl,h⟩:=pJ.1 h
    simp only [Rvs] at hx
    obtain ⟨x,r,rfl,hv,rfl⟩:=hx
    obtain ⟨s,rfl,hs⟩:=GL h hv
    have:s.size<=maxLen:=Nat.le_trans hs (by decide)
    exact ⟨_,by simp [this];rfl⟩
   case array n e=>
    have h:(Bool.rec false (IX n λi=>EZ (Nat.mul i (Pr.cellsOf e)) (Pr.cellsOf e) (KT Pr D e) l) (Nat.beq (bR l) (Pr.cellsOf t)):Bool)=true:=h
    cases hb:Nat.beq (bR l) (Pr.cellsOf t) with
    | false=>rw [hb] at h;cases h
    | true=>
     rw [hb] at h
     have hl:=Nat.eq_of_beq_eq_true hb
     rw [bO] at hl
     have h:=JB.1 h
     have:∃ ys,(List.range n).mapM (λi=>Pr.keyLits D e ((xs.drop (i * Pr.cellsOf e)).take (Pr.cellsOf e)))=some ys:=ll λi hi=>by
      obtain ⟨r,h1,h2⟩:=xZ hx (h i (List.mem_range.1 hi));exact oO D e _ _ h1 h2
     obtain ⟨ys,hys⟩:=this
     exact ⟨ys.flatten,by simp only [len,hl,if_true,hys];rfl⟩
   case struct fs=>
    have h:(Bool.rec false (Bool.rec false (Gy fs.toList λf=>EZ f.offset (Pr.cellsOf f.type) (KT Pr D f.type) l) (Nat.beq (bR l) (Pr.cellsOf t))) (fs.all (·.name != "_")):Bool)=true:=h
    cases hn:fs.all (·.name != "_") with
    | false=>rw [hn] at h;cases h
    | true=>
     rw [hn] at h
     cases hb:Nat.beq (bR l) (Pr.cellsOf t) with
     | false=>rw [hb] at h;cases h
     | true=>
      rw [hb] at h
      have hl:=Nat.eq_of_beq_eq_true hb
      rw [bO] at hl
      have h:=IP.1 h
      have:∃ ys,fs.toList.mapM (λf=>Pr.keyLits D f.type ((xs.drop f.offset).take (Pr.cellsOf f.type)))=some ys:=ll λf hf=>by
       obtain ⟨r,h1,h2⟩:=xZ hx (h f hf);exact oO D f.type _ _ h1 h2
      obtain ⟨ys,hys⟩:=this
      exact ⟨ys.flatten,by simp only [len,hl,hn,and_self,if_true,hys];rfl⟩
theorem jU {t:TypeId} (h:iX Pr t=true):Pr.keyTypeAt 40 t=true/\Pr.keyType t=true/\Pr.tiled 40 t=true/\(match Pr.underlying t with | some (.array _ _) | some (.struct _)=>true | _=>false)=true:=by
 unfold iX at h
 split at h
 .rename_i hu;simp only [Bool.and_eq_true] at h;rw [hu];exact ⟨h.1.1,h.1.2,h.2,rfl⟩
 .rename_i hu;simp only [Bool.and_eq_true] at h;rw [hu];exact ⟨h.1.1,h.1.2,h.2,rfl⟩
 .cases h
theorem gJ {t:TypeId} (hw:iX Pr t=true) {v:V} {x:Value} (h:iG Pr t v=true) (hx:Rv ρ v x):∃ a:Array Value,x= .agg a/\x.formed Pr t=true/\∃ ls,Pr.keyLits (Pr.types.size+1) t a.toList=some ls:=by
 cases v <;> first | (cases h;done) | skip
 rename_i l;simp only [Rv] at hx;obtain ⟨a,rfl,ha⟩:=hx;have h:KT Pr (Pr.types.size+1) t l=true:=h;obtain ⟨ls,hls⟩:=oO _ t l _ h ha;refine ⟨a,rfl,?_,ls,hls⟩;obtain ⟨_,_,_,h4⟩:=jU hw;unfold Program.keyLits at hls
 cases hu:Pr.underlying t with
 | none=>rw [hu] at h4;cases h4
 | some d=>
  rw [hu] at h4 hls
  cases d <;> simp only at h4 <;> first | (cases h4;done) | skip
  case array n e=>
   simp only at hls
   split at hls
   .rename_i h1
    simp only [Value.formed,hu]
    simpa using h1
   .cases hls
  case struct fs=>
   simp only at hls
   split at hls
   .rename_i h1
    simp only [Value.formed,hu]
    simpa using h1.1
   .cases hls
theorem EY {t:TypeId} (hw:iX Pr t=true) {v u:V} {x y:Value} (h1:iG Pr t v=true) (h2:iG Pr t u=true) (hx:Rv ρ v x) (hy:Rv ρ u y) {r:Bool} (e:nP v u=some r) (w:World):(Op.equal t x y).run Pr w= .ok r w:=by
 obtain ⟨a,rfl,fa,la,hla⟩:=gJ hw h1 hx;obtain ⟨b,rfl,fb,lb,hlb⟩:=gJ hw h2 hy;obtain ⟨k1,_,k3,_⟩:=jU hw;obtain ⟨r',hr,hiff⟩:=run_equalIn_deep (P:=Pr) 9960 40 t k1 w _ _ (.agg a) (.agg b) la lb fa fb hla hlb;have c1:=cells_of_lits 40 t k3 _ _ _ hla;have c2:=cells_of_lits 40 t k3 _ _ _ hlb;have h3:=uE e hx hy
 have:r'=r:=by
  rw [Bool.eq_iff_iff,hiff,h3]
  constructor
  .intro h;subst h;rw [Array.toList_inj.1 (c1.trans c2.symm)]
  .intro h;injection h with h;subst h;rw [hla] at hlb;exact Option.some.inj hlb
 subst this;exact hr
theorem zC {x y:Option Bool} {u:V} {r:Bool} (e:eqD.onP x y u=some r):(u= .pnil/\x=some r)\/∃ b i j,u= .ptr b i j/\y=some r:=by
 cases u <;> first | exact .inl ⟨rfl,e⟩ | exact .inr ⟨_,_,_,rfl,e⟩ | cases e
theorem ym {x y:Option Bool} {u:V} {r:Bool} (e:eqD.onF x y u=some r):(u= .fnil/\x=some r)\/∃ f a b,u= .fn f a b/\y=some r:=by
 cases u <;> first | exact .inl ⟨rfl,e⟩ | exact .inr ⟨_,_,_,rfl,e⟩ | cases e
theorem zw {x y:Option Bool} {u:V} {r:Bool} (e:eqD.onI x y u=some r):(u= .inil/\x=some r)\/∃ t v,u= .iface t v/\y=some r:=by
 cases u <;> first | exact .inl ⟨rfl,e⟩ | exact .inr ⟨_,_,rfl,e⟩ | cases e
def Jg (x:Value):Prop:=(∀ k a,x≠.int k a)/\(∀ k a,x≠.float k a)/\(∀ k a b,x≠.complex k a b)/\(∀ a,x≠.string a)
theorem OZ {t:TypeId} {x y:Value} {r:Bool} {w:World} (hx:Jg x) (h:(Op.equal t x y).run Pr w= .ok r w):(binOp .eql t x y).run Pr w= .ok (.bool r) w/\(binOp .neq t x y).run Pr w= .ok (.bool (!r)) w:=by
 obtain ⟨h1,h2,h3,h4⟩:=hx;cases x <;> first | exact absurd rfl (h1 _ _) | exact absurd rfl (h2 _ _) | exact absurd rfl (h3 _ _ _) | exact absurd rfl (h4 _) | skip
 all_goals exact ⟨by simp [binOp,h],by simp [binOp,h]⟩
section eqs
variable {w:World} {t:TypeId} (d:Nat)
theorem RD {e:TypeId} (h:Pr.underlying t=some (.pointer e)):(Op.equalIn (d+1) t (.pointer none) (.pointer none)).run Pr w= .ok true w/\(∀ a,(Op.equalIn (d+1) t (.pointer none) (.pointer (some a))).run Pr w= .ok false w)/\∀ a,(Op.equalIn (d+1) t (.pointer (some a)) (.pointer none)).run Pr w= .ok false w:=
 ⟨by simp [Op.equalIn,run_underlying h],λa=>by simp [Op.equalIn,run_underlying h],λa=>by simp [Op.equalIn,run_underlying h]⟩
theorem SA {e:TypeId} (h:Pr.underlying t=some (.slice e)):(Op.equalIn (d+1) t (.slice none 0 0) (.slice none 0 0)).run Pr w= .ok true w/\(∀ a l c,(Op.equalIn (d+1) t (.slice none 0 0) (.slice (some a) l c)).run Pr w= .ok false w)/\∀ a l c,(Op.equalIn (d+1) t (.slice (some a) l c) (.slice none 0 0)).run Pr w= .ok false w:=
 ⟨by simp [Op.equalIn,run_underlying h],λa l c=>by simp [Op.equalIn,run_underlying h],λa l c=>by simp [Op.equalIn,run_underlying h]⟩
theorem RP {k e:TypeId} (h:Pr.underlying t=some (.map k e)):(Op.equalIn (d+1) t (.map none) (.map none)).run Pr w= .ok true w/\(∀ a,(Op.equalIn (d+1) t (.map none) (.map (some a))).run Pr w= .ok false w)/\∀ a,(Op.equalIn (d+1) t (.map (some a)) (.map none)).run Pr w= .ok false w:=
 ⟨by simp [Op.equalIn,run_underlying h],λa=>by simp [Op.equalIn,run_underlying h],λa=>by simp [Op.equalIn,run_underlying h]⟩
theorem Sh {p r:Array TypeId} {v:Bool} (h:Pr.underlying t=some (.func p r v)):(Op.equalIn (d+1) t .nilFunc .nilFunc).run Pr w= .ok true w/\(∀ f a b,(Op.equalIn (d+1) t .nilFunc (.func f a b)).run Pr w= .ok false w)/\∀ f a b,(Op.equalIn (d+1) t (.func f a b) .nilFunc).run Pr w= .ok false w:=
 ⟨by simp [Op.equalIn,run_underlying h],λf a b=>by simp [Op.equalIn,run_underlying h],λf a b=>by simp [Op.equalIn,run_underlying h]⟩
theorem RN {ms:Array (String × TypeId)} (h:Pr.underlying t=some (.interface ms)):(Op.equalIn (d+1) t .nilIface .nilIface).run Pr w= .ok true w/\(∀ u a,(Op.equalIn (d+1) t .nilIface (.iface u a)).run Pr w= .ok false w)/\∀ u a,(Op.equalIn (d+1) t (.iface u a) .nilIface).run Pr w= .ok false w:=
 ⟨by simp [Op.equalIn,run_underlying h],λu a=>by simp [Op.equalIn,run_underlying h],λu a=>by simp [Op.equalIn,run_underlying h]⟩
end eqs
theorem yR {t:TypeId} {v u:V} {X Y:Value} {r:Bool} (e:(Bool.rec (λ_ _=>none) (λv u=>Bool.rec none (Bool.rec none (nP v u) (iG Pr t u)) (iG Pr t v)) (Bool.rec false (dP (Pr.eqGuardType Pr.depth t)) (iX Pr t)):V->V->Option Bool) v u=some r) (hx:Rv ρ v X) (hy:Rv ρ u Y) {x y:Operand} (w:World) (op:BinOp) :
  Jg X/\(Op.equal t X Y).run Pr w= .ok r w/\(eqGuard op t x y X Y).run Pr w= .ok () w:=by
 cases hw:iX Pr t with
 | false=>rw [hw] at e;cases e
 | true=>
  rw [hw] at e
  cases hg:Pr.eqGuardType Pr.depth t with
  | true=>rw [hg] at e;cases e
  | false=>
   rw [hg] at e
   replace e:(Bool.rec none (Bool.rec none (nP v u) (iG Pr t u)) (iG Pr t v):Option Bool)=some r:=e
   simp only [aj] at e
   obtain ⟨h1,h2,e⟩:=e
   obtain ⟨a,rfl,_⟩:=gJ hw h1 hx
   obtain ⟨b,rfl,_⟩:=gJ hw h2 hy
   refine ⟨⟨by intros;simp,by intros;simp,by intros;simp,by intros;simp⟩,EY hw h1 h2 hx hy e w,?_⟩
   cases op <;> simp [eqGuard,hg]
theorem Fm {t:TypeId} {c:Bool} {v u:V} {X Y:Value} {r:Bool} (e:eqD Pr t c v u=some r) (hx:Rv ρ v X) (hy:Rv ρ u Y) {x y:Operand} (hc:c=true->(∃ k,x= .const k)\/∃ k,y= .const k) (w:World) (op:BinOp) :
  Jg X/\(Op.equal t X Y).run Pr w= .ok r w/\(eqGuard op t x y X Y).run Pr w= .ok () w:=by
 unfold eqD at e
 cases hu:Pr.underlying t with
 | none=>rw [hu] at e;cases e
 | some d=>
 rw [hu] at e;cases d
 case bool=>
  simp only [fB] at e
  obtain ⟨a,rfl,b,rfl,e⟩:=e
  simp only [Rv] at hx hy
  subst hx hy
  refine ⟨⟨by intros;simp,by intros;simp,by intros;simp,by intros;simp⟩,?_,dO (by intros;simp) (by simp)⟩
  have h:=pI (P:=Pr) (w:=w) (p:=a) (q:=b) 9999 hu
  cases e
  show (Op.equalIn (9999+1) t (.bool a) (.bool b)).run Pr w=_
  rw [h]
  cases a <;> cases b <;> rfl
 case pointer p=>
  cases v <;> first | (cases e;done) | skip
  .simp only [Rv] at hx
   subst hx
   rcases zC e with ⟨rfl,h⟩ | ⟨b,i,j,rfl,h⟩
   .cases h;simp only [Rv] at hy;subst hy
    exact ⟨⟨by intros;simp,by intros;simp,by intros;simp,by intros;simp⟩,(RD 9999 hu).1,dO (by intros;simp) (by simp)⟩
   .cases h;simp only [Rv] at hy;obtain ⟨L,_,rfl⟩:=hy
    exact ⟨⟨by intros;simp,by intros;simp,by intros;simp,by intros;simp⟩,(RD 9999 hu).2.1 _,dO (by intros;simp) (by simp)⟩
  .simp only [Rv] at hx
   obtain ⟨L,_,rfl⟩:=hx
   rcases zC e with ⟨rfl,h⟩ | ⟨b,i,j,rfl,h⟩
   .cases h;simp only [Rv] at hy;subst hy
    exact ⟨⟨by intros;simp,by intros;simp,by intros;simp,by intros;simp⟩,(RD 9999 hu).2.2 _,dO (by intros;simp) (by simp)⟩
   .cases h
 case slice p=>
  rw [bu] at e
  rcases e with ⟨rfl,e⟩ | ⟨b,i,l,k,rfl,e⟩
  .simp only [Rv] at hx
   subst hx
   rw [bu] at e
   rcases e with ⟨rfl,e⟩ | ⟨b',i',l',k',rfl,e⟩
   .cases e;simp only [Rv] at hy;subst hy
    exact ⟨⟨by intros;simp,by intros;simp,by intros;simp,by intros;simp⟩,(SA 9999 hu).1,dO (by intros;simp) (by simp)⟩
   .cases e;simp only [Rv] at hy;obtain ⟨L,c',_,_,rfl,_⟩:=hy
    exact ⟨⟨by intros;simp,by intros;simp,by intros;simp,by intros;simp⟩,(SA 9999 hu).2.1 _ _ _,dO (by intros;simp) (by simp)⟩
  .simp only [Rv] at hx
   obtain ⟨L,c',_,_,rfl,_⟩:=hx
   rw [bu] at e
   rcases e with ⟨rfl,e⟩ | ⟨b',i',l',k',rfl,e⟩
   .cases e;simp only [Rv] at hy;subst hy
    exact ⟨⟨by intros;simp,by intros;simp,by intros;simp,by intros;simp⟩,(SA 9999 hu).2.2 _ _ _,dO (by intros;simp) (by simp)⟩
   .cases e
 case map p q=>
  rw [bD] at e
  rcases e with ⟨rfl,e⟩ | ⟨b,rfl,e⟩
  .simp only [Rv] at hx
   subst hx
   rw [bD] at e
   rcases e with ⟨rfl,e⟩ | ⟨b',rfl,e⟩
   .cases e;simp only [Rv] at hy;subst hy
    exact ⟨⟨by intros;simp,by intros;simp,by intros;simp,by intros;simp⟩,(RP 9999 hu).1,dO (by intros;simp) (by simp)⟩
   .cases e;simp only [Rv] at hy;obtain ⟨L,_,rfl⟩:=hy
    exact ⟨⟨by intros;simp,by intros;simp,by intros;simp,by intros;simp⟩,(RP 9999 hu).2.1 _,dO (by intros;simp) (by simp)⟩
  .simp only [Rv] at hx
   obtain ⟨L,_,rfl⟩:=hx
   rw [bD] at e
   rcases e with ⟨rfl,e⟩ | ⟨b',rfl,e⟩
   .cases e;simp only [Rv] at hy;subst hy
    exact ⟨⟨by intros;simp,by intros;simp,by intros;simp,by intros;simp⟩,(RP 9999 hu).2.2 _,dO (by intros;simp) (by simp)⟩
   .cases e
 case func p q s=>
  cases v <;> first | (cases e;done) | skip
  .simp only [Rv] at hx
   obtain ⟨a',b',rfl,_⟩:=hx
   rcases ym e with ⟨rfl,h⟩ | ⟨_,_,_,rfl,h⟩
   .cases h;simp only [Rv] at hy;subst hy
    exact ⟨⟨by intros;simp,by intros;simp,by intros;simp,by intros;simp⟩,(Sh 9999 hu).2.2 _ _ _,dO (by intros;simp) (by simp)⟩
   .cases h
  .simp only [Rv] at hx
   subst hx
   rcases ym e with ⟨rfl,h⟩ | ⟨_,_,_,rfl,h⟩
   .cases h;simp only [Rv] at hy;subst hy
    exact ⟨⟨by intros;simp,by intros;simp,by intros;simp,by intros;simp⟩,(Sh 9999 hu).1,dO (by intros;simp) (by simp)⟩
   .cases h;simp only [Rv] at hy;obtain ⟨_,_,rfl,_⟩:=hy
    exact ⟨⟨by intros;simp,by intros;simp,by intros;simp,by intros;simp⟩,(Sh 9999 hu).2.1 _ _ _,dO (by intros;simp) (by simp)⟩
 case interface ms=>
  cases v <;> first | (cases e;done) | skip
  .simp only [Rv] at hx
   subst hx
   rcases zw e with ⟨rfl,h⟩ | ⟨_,_,rfl,h⟩
   .cases c with
    | false=>cases h
    | true=>
     cases h;simp only [Rv] at hy;subst hy
     refine ⟨⟨by intros;simp,by intros;simp,by intros;simp,by intros;simp⟩,(RN 9999 hu).1,?_⟩
     rcases hc rfl with ⟨k,rfl⟩ | ⟨k,rfl⟩
     .cases op <;> simp [eqGuard]
     .cases op <;> simp [eqGuard]
   .cases h;simp only [Rv] at hy;obtain ⟨_,rfl,_⟩:=hy
    refine ⟨⟨by intros;simp,by intros;simp,by intros;simp,by intros;simp⟩,(RN 9999 hu).2.1 _ _,?_⟩
    cases op <;> simp [eqGuard]
  .simp only [Rv] at hx
   obtain ⟨_,rfl,_⟩:=hx
   rcases zw e with ⟨rfl,h⟩ | ⟨_,_,rfl,h⟩
   .cases h;simp only [Rv] at hy;subst hy
    exact ⟨⟨by intros;simp,by intros;simp,by intros;simp,by intros;simp⟩,(RN 9999 hu).2.2 _ _,dO (by intros;simp) (by simp)⟩
   .cases h
 case struct fs=>
  replace e:(Bool.rec (λ_ _=>none) (λv u=>Bool.rec none (Bool.rec none (nP v u) (iG Pr t u)) (iG Pr t v)) (Bool.rec false (dP (Pr.eqGuardType Pr.depth t)) (iX Pr t)):V->V->Option Bool) v u=some r:=e
  exact yR e hx hy w op
 case array n el=>
  replace e:(Bool.rec (λ_ _=>none) (λv u=>Bool.rec none (Bool.rec none (nP v u) (iG Pr t u)) (iG Pr t v)) (Bool.rec false (dP (Pr.eqGuardType Pr.depth t)) (iX Pr t)):V->V->Option Bool) v u=some r:=e
  exact yR e hx hy w op
 all_goals cases e
end
end Go.Lk
namespace Go.Lk
open Go.Eng Go.RowKit
section
variable {ρ:Ren} {Pr:Program} {m:Nat} {w0:Base} {w:World} {ty t t':TypeId} {σ:T V} {τ:Nat->Value} {h:T Blk} {n:P} {run:fG}
def IW:BinOp->Bool->Bool
 | .eql,r=>r
 | _,r=>!r
theorem zl {x:Operand} (h:CX x=true):∃ k,x= .const k:=by cases x <;> first | exact ⟨_,rfl⟩ | cases h
theorem F7 {c:Bool} {v u:V} {X Y:Value} {r:Bool} (e:PP Pr t c v u=some r) (hx:Rv ρ v X) (hy:Rv ρ u Y) :
  (∃ k a b,X= .int k a/\Y= .int k b/\r=decide (a=b))\/(∃ a b,X= .string a/\Y= .string b/\r=(a.toList == b.toList))\/(∃ a b,X= .float .f64 a/\Y= .float .f64 b/\r=I5 false true false (Flt.D.order a b))\/eqD Pr t c v u=some r:=by
 cases v
 case int k a=>
  rcases kR (ρ:=ρ) (v:=.int k a) e hx hy with ⟨k',p,q,rfl,rfl,rfl⟩ | ⟨p,q,rfl,rfl,rfl⟩ | ⟨p,q,rfl,rfl,rfl⟩
  .exact .inl ⟨_,_,_,rfl,rfl,rfl⟩
  .simp only [Rv] at hx;cases hx
  .simp only [Rv] at hx;cases hx
 case str l=>
  rcases kR (ρ:=ρ) (v:=.str l) e hx hy with ⟨k',p,q,rfl,rfl,rfl⟩ | ⟨p,q,rfl,rfl,rfl⟩ | ⟨p,q,rfl,rfl,rfl⟩
  .simp only [Rv] at hx;obtain ⟨_,hx,_⟩:=hx;cases hx
  .simp only [Rv] at hx;obtain ⟨_,hx,_⟩:=hx;cases hx
  .exact .inr (.inl ⟨_,_,rfl,rfl,rfl⟩)
 case flt a=>
  replace e:V.onFlt (λb=>some (I5 false true false (Flt.D.order a b))) u=some r:=e
  cases u <;> first | (cases e;done) | skip
  cases e
  simp only [Rv] at hx hy
  exact .inr (.inr (.inl ⟨_,_,hx,hy,rfl⟩))
 case yield=>cases e
 case tup=>cases e
 all_goals exact .inr (.inr (.inr e))
theorem Qi (f:Fr ρ m σ τ) {op:BinOp} {x y:Operand} {v:V} (e:(on (aJ x σ) λa=>on (aJ y σ) λb=>zD Pr t (PJ (CX x) (CX y)) op a b)=some v):∃ u,Ex Pr (ev m τ) w (.binOp op t x y t') ty u/\Rv ρ v u:=by
 simp only [ah] at e;obtain ⟨a,ha,b,hb,e⟩:=e;have hx:=av f ha;have hy:=av f hb
 by_cases hop:op≠.eql/\op≠.neq
 .exact Sv hop rfl rfl hx hy e
 have hop':op= .eql\/op= .neq:=by
  by_cases h1:op= .eql
  .exact .inl h1
  .exact .inr (Classical.byContradiction λh2=>hop ⟨h1,h2⟩)
 clear hop;generalize hX:ev m τ x=X at hx;generalize hY:ev m τ y=Y at hy
 have key:∃ r:Bool,v= .bool (IW op r)/\PP Pr t (PJ (CX x) (CX y)) a b=some r:=by
  rcases hop' with rfl | rfl
  .have e:(on (PP Pr t (PJ (CX x) (CX y)) a b) λb=>some (.bool b))=some v:=e;rw [ah] at e;obtain ⟨r,h1,e⟩:=e;cases e;exact ⟨r,rfl,h1⟩
  .have e:(on (PP Pr t (PJ (CX x) (CX y)) a b) λb=>some (.bool (dP b)))=some v:=e;rw [ah] at e;obtain ⟨r,h1,e⟩:=e;cases e;exact ⟨r,by cases r <;> rfl,h1⟩
 obtain ⟨r,rfl,hq⟩:=key;clear ha hb e;refine ⟨.bool (IW op r),?_,by simp only [Rv]⟩
 have fin:(eqGuard op t x y X Y).run Pr w= .ok () w->(binOp .eql t X Y).run Pr w= .ok (.bool r) w/\(binOp .neq t X Y).run Pr w= .ok (.bool (!r)) w->Ex Pr (ev m τ) w (.binOp op t x y t') ty (.bool (IW op r)):=by
  intro h1 h2
  rcases hop' with rfl | rfl
  .exact FI hX hY h1 h2.1
  .exact FI hX hY h1 h2.2
 rcases F7 hq hx hy with ⟨k,p,q,rfl,rfl,rfl⟩ | ⟨p,q,rfl,rfl,rfl⟩ | ⟨p,q,rfl,rfl,rfl⟩ | h4
 .exact fin (dO (by intros;simp) (by simp)) ⟨by simp [binOp,Op.intCmp];rfl,by simp [binOp,Op.intCmp,bne];rfl⟩
 .exact fin (dO (by intros;simp) (by simp)) ⟨by simp [binOp,Op.stringOp],by simp [binOp,Op.stringOp]⟩
 .refine fin (dO (by intros;simp) (by simp)) ?_;have h':FloatKind.f64.format.order p q=Flt.D.order p q:=rfl;rw [lh];simp only [binOp,ne_eq,not_true_eq_false,if_false,Op.floatCmp,h',Sem.run_pure]
  cases Flt.D.order p q with
  | none=>exact ⟨rfl,rfl⟩
  | some o=>cases o <;> exact ⟨rfl,rfl⟩
 .obtain ⟨h1,h2,h3⟩:=Fm h4 hx hy (x:=x) (y:=y) (λhc=>by
   cases hcx:CX x with
   | true=>exact .inl (zl hcx)
   | false=>rw [hcx] at hc;exact .inr (zl hc)) w op
  exact fin h3 (OZ h1 h2)
theorem Rh.free (H:Rh w0 ρ h n w):ρ n=none:=by
 cases hn:ρ n with
 | none=>rfl
 | some L=>have:=(H.new n L hn).2.2;omega
variable {β:Type} {r:β} {k:V->T Blk->P->Option β}
theorem DD (H:Rh w0 ρ h n w) {l:List V} {arr:Array Value} (hv:Rvs ρ l arr.toList) {w':World} (ha:Al w w' (.cells arr t)) (e:eB (uo t l) (.ptr n 0 0) h n k=some r):Kx w0 ρ r k (.pointer (some ⟨w.heap.size,0,none⟩)) w':=by
 refine ⟨_,_,_,_,Ren.le_put H.free,H.news H.free (k:=l.length) (rs:=[l]) (by simp) (by simpa using hv) ha,?_,by rw [← bO];exact e⟩;simp only [Rv];exact ⟨_,Ren.put_same,by simp⟩
theorem dw {β:Type} {r:β} {f:List V->Option β} {v:V}:V.onCells f v=some r↔(∀ l,v≠.tup l)/\f (py v)=some r:=by
 cases v <;> constructor <;> intro h <;> first | exact ⟨(by intros;simp),h⟩ | exact h.2 | (cases h;done) | exact absurd rfl (h.1 _)
theorem F9 {z:List V} (hz:zN Pr t=some z):∃ x,ZV Pr t x/\Rvs ρ z x.cells.toList:=by
 unfold zN at hz;rw [ah] at hz;obtain ⟨v,hv,hz⟩:=hz;rw [dw] at hz;obtain ⟨ht,hz⟩:=hz;cases hz
 obtain ⟨x,h1,h2⟩:=jS (ρ:=ρ) hv;exact ⟨x,h1,eV h2 ht⟩
theorem Jw (H:Rh w0 ρ h n w) {z:List V} (hz:zN Pr t=some z) (e:eB (uo t z) (.ptr n 0 0) h n k=some r):fU Pr (ev m τ) w (.alloc t) ty (Kx w0 ρ r k):=by
 obtain ⟨zv,h1,h2⟩:=F9 (ρ:=ρ) hz;exact Du h1 λw' ha=>DD H h2 ha e
theorem NZ (H:Rh w0 ρ h n w) (f:Fr ρ m σ τ) {x:Operand} (e:on (aJ x σ) (V.onCells λc=>eB (uo t c) (.ptr n 0 0) h n k)=some r):fU Pr (ev m τ) w (.box t x) ty (Kx w0 ρ r k):=by
 simp only [ah,dw] at e;obtain ⟨v,hv,ht,e⟩:=e;exact MK rfl λ_ ha=>DD H (eV (av f hv) ht) ha e
theorem FM (H:Rh w0 ρ h n w) (f:Fr ρ m σ τ) {a x:Operand} (e:Ao (l6 Pr t) a x run σ h n k=some r):fU Pr (ev m τ) w (.store t a x) ty (Kx w0 ρ r k):=by
 unfold Ao at e;simp only [ah,dw,bE,aj,bO] at e;obtain ⟨p,hp,v,hv,ht,b,i,j,rfl,g,hg,hl,h1,h',hw,e⟩:=e;have hl:=Nat.eq_of_beq_eq_true hl;exact S7 H (jo hg) rfl (av f hp) rfl (av f hv) h1 hl ht hw λw' H'=>⟨ρ,aS,h',n,.refl _,H',fK,e⟩
end
end Go.Lk
namespace Go.Lk
open Go.Eng Go.RowKit
section
variable {ρ:Ren} {Pr:Program} {m:Nat} {w0:Base} {w:World} {ty t t':TypeId} {σ:T V} {τ:Nat->Value} {h:T Blk} {n:P} {run:fG}
theorem jL {k:Nat} (h:j3 Pr t=some k):∃ e,Pr.underlying t=some (.slice e)/\SZ Pr e k:=by
 unfold j3 vJ at h
 split at h
 .rename_i e he
  split at he
  .cases he
   rename_i hu;exact ⟨e,hu,jo h⟩
  .cases he
 .cases h
theorem vg {a:Nat × TypeId} (h:D9 Pr t=some a):Pr.underlying t=some (.array a.1 a.2):=by
 unfold D9 at h
 split at h
 .cases h;assumption
 .cases h
theorem E9 {a:Nat × Nat} (h:EW Pr t=some a):∃ e,Pr.underlying t=some (.array a.1 e)/\SZ Pr e a.2:=by
 unfold EW at h
 cases ha:D9 Pr t with
 | none=>rw [ha] at h;cases h
 | some p=>
  rw [ha] at h
  obtain ⟨n,e⟩:=p
  have hu:=vg ha
  cases hk:l6 Pr e with
  | none=>simp [hk] at h
  | some k=>
   simp [hk] at h
   subst h
   exact ⟨e,hu,jo hk⟩
def WB (h:T Blk) (b:P) (kk:Nat):Prop:=∃ B,T.get b h=some B/\Blk.onWid some B=some kk
theorem Ay {β:Type} {r:β} {f:Nat->Option β} {B:Blk} (e:Blk.onWid f B=some r):∃ k,Blk.onWid some B=some k/\f k=some r:=by
 cases B <;> first | exact ⟨_,rfl,e⟩ | cases e
theorem lu {b:P} {es:Option Nat} {β:Type} {f:Option β} {r:β} (e:mA b es h f=some r):∃ kk,es=some kk/\WB h b kk/\f=some r:=by
 unfold mA at e;simp only [ah] at e;obtain ⟨kk,hk,B,hB,e⟩:=e;obtain ⟨k,h1,e1⟩:=Ay e;rw [aj] at e1;obtain ⟨hkk,e2⟩:=e1;have:=Nat.eq_of_beq_eq_true hkk;subst this;exact ⟨_,hk,⟨B,hB,h1⟩,e2⟩
theorem Rh.wide (H:Rh w0 ρ h n w) {b:P} {L:Loc} {k:Nat} (hb:WB h b k) (hL:ρ b=some L):L.k=k:=by
 obtain ⟨B,hB,hw⟩:=hb;have:=H.live b _ L hB hL;cases B <;> first | (cases hw;exact this.1) | cases hw
theorem Rh.width (H:Rh w0 ρ h n w) {b:P} {L:Loc} {tt:TypeId} {k:Nat} {op:Bool} {rs:List (List V)} (hb:T.get b h=some (.rows tt k op rs)) (hL:ρ b=some L):L.k=k:=(H.live b _ L hb hL).1
theorem xP (H:Rh w0 ρ h n w) (f:Fr ρ m σ τ) {x i:Operand} {v:V} (e:(on (aJ x σ) λv=>on (aJ i σ) (iQ λi=>mI (EW Pr t) (j3 Pr t) h v i))=some v):∃ u,Ex Pr (ev m τ) w (.indexAddr t x i) ty u/\Rv ρ v u:=by
 simp only [ah,eQ] at e;obtain ⟨a,ha,_,hi,kk,j,rfl,e⟩:=e;have hx:=av f ha;have hy:=av f hi;simp only [Rv] at hy;cases a <;> first | (cases e;done) | skip
 case ptr b r c=>
  replace e:on (EW Pr t) (λnk=>Prod.rec (λn k=>Bool.rec none (some (.ptr b r (Nat.add c (Nat.mul j k)))) (Nat.blt j n)) nk)=some v:=e
  rw [ah] at e
  obtain ⟨nk,hnk,e⟩:=e
  obtain ⟨n',k⟩:=nk
  replace e:Bool.rec none (some (.ptr b r (Nat.add c (Nat.mul j k)))) (Nat.blt j n')=some v:=e
  rw [aj,dm] at e
  obtain ⟨hlt,e⟩:=e
  cases e
  have hlt:=of_decide_eq_true hlt
  obtain ⟨el,hu,hs⟩:=E9 hnk
  simp only [Rv] at hx
  obtain ⟨L,hL,hx⟩:=hx
  have hs':=hs w
  refine ⟨.pointer (some ⟨L.c,(L.o+r) * L.k+c+j * k,none⟩),λ_ _ _ _=>?_,?_⟩
  .have e1:(0:Int)<=(j:Int)/\(j:Int)<(n':Int):=⟨by omega,by omega⟩
   simp [execOp,hx,hy,Instr.indexAt,asIntOf,run_underlying hu,Instr.sureAddr,hs',bH,hlt]
  .simp only [Rv]
   exact ⟨L,hL,by rw [Nat.add_assoc];rfl⟩
 case sl b o len cap=>
  replace e:Bool.rec none (mA b (j3 Pr t) h (some (.ptr b (Nat.add o j) 0))) (Nat.blt j len)=some v:=e
  rw [aj,dm] at e
  obtain ⟨hlt,e⟩:=e
  have hlt:=of_decide_eq_true hlt
  obtain ⟨k,hk,hB,e⟩:=lu e
  cases e
  obtain ⟨el,hu,hs⟩:=jL hk
  simp only [Rv] at hx
  obtain ⟨L,c,pp,hL,hx,hpl,_⟩:=hx
  obtain rfl:=(hpl.pos (by omega)).symm
  have hw:=H.wide hB hL
  have hs':=hs w
  refine ⟨.pointer (some ⟨L.c,(L.o+o) * L.k+j * k,none⟩),λ_ _ _ _=>?_,?_⟩
  .simp [execOp,hx,hy,Instr.indexAt,asIntOf,run_underlying hu,hs',bH,hlt]
  .simp only [Rv]
   refine ⟨L,hL,?_⟩
   rw [← hw,← Nat.add_mul]
   congr 3
   show (L.o+o+j) * L.k=(L.o+(o+j)) * L.k+0
   rw [Nat.add_assoc];rfl
theorem u6 {g:Option Nat} {k off:Nat} {l:List V} {v:V} {arr:Array Value} (hg:fV Pr t=some g) (hk:l6 Pr t=some k) (hv:Rvs ρ l arr.toList) {m':List V} (hm:bY k (dB off l)=some m') (e:Ce g m'=some v):∃ u,(part t arr off).run Pr w= .ok u w/\Rv ρ v u:=by
 rw [dA] at hm;obtain ⟨hlen,rfl⟩:=bL _ _ _ hm;have h1:=((hv.split off).2.split k).1;have hsz:=jo hk w
 cases g with
 | none=>
  have hna:=pD hg w
  cases hl:(l.drop off).take k with
  | nil=>rw [hl] at e;cases e
  | cons a r=>
   rw [hl] at e h1
   cases r with
   | cons=>cases e
   | nil=>
    have e:some a=some v:=e
    cases e
    simp only [Rvs] at h1
    obtain ⟨x,r,hx,hv',rfl⟩:=h1
    have hx0:arr[off]?=some x:=by
     have:((arr.toList.drop off).take k)[0]?=some x:=by rw [hx];rfl
     rw [List.getElem?_take,List.getElem?_drop] at this
     split at this
     .rw [← Array.getElem?_toList];simpa using this
     .cases this
    exact ⟨x,by simp [part,hna,hx0],hv'⟩
 | some k'=>
  have hag:=(uX hg w)
  have e:some (.agg ((l.drop off).take k))=some v:=e
  cases e
  refine ⟨.agg (arr.extract off (off+k)),by simp [part,hag.1,hsz],?_⟩
  simp only [Rv]
  refine ⟨_,rfl,?_⟩
  rw [Array.toList_extract]
  simpa [List.extract] using h1
theorem K7 (f:Fr ρ m σ τ) {x:Operand} {s fi k:Nat} {g:Option Nat} {fl:Field} (hf:bI Pr s fi=some fl) (hk:l6 Pr fl.type=some k) (hg:fV Pr fl.type=some g) {v:V} (e:on (aJ x σ) (jE fl.offset k g)=some v):∃ u,Ex Pr (ev m τ) w (.field s x fi) ty u/\Rv ρ v u:=by
 unfold jE at e;simp only [ah,mB] at e;obtain ⟨_,ha,l,rfl,m',hm,e⟩:=e;have hx:=av f ha;simp only [Rv] at hx;obtain ⟨arr,hx,hv⟩:=hx;obtain ⟨u,hu,hr⟩:=u6 (w:=w) hg hk hv hm e;unfold bI at hf
 split at hf
 .rename_i fs hd;exact ⟨u,λ_ _ _ _=>by simp [execOp,hx,Instr.field,run_underlying hd,hf,asAgg,hu],hr⟩
 .cases hf
theorem JN (f:Fr ρ m σ τ) {x i:Operand} {v:V} (e:(on (aJ x σ) λv=>on (aJ i σ) (iQ λi=>zP (xn Pr t) (Gn Pr t) v i))=some v):∃ u,Ex Pr (ev m τ) w (.index t x i) ty u/\Rv ρ v u:=by
 simp only [ah,eQ] at e;obtain ⟨a,ha,_,hi,kk,j,rfl,e⟩:=e;have hx:=av f ha;have hy:=av f hi;simp only [Rv] at hy;cases a <;> first | (cases e;done) | skip
 case str l=>
  replace e:Bool.rec none (on (oN j l) (λc=>some (V.int .u8 (.ofNat c)))) (xn Pr t)=some v:=e
  rw [aj,ah,gD] at e
  obtain ⟨hstr,c,hc,e⟩:=e
  cases e
  simp only [Rv] at hx
  obtain ⟨s,hx,rfl⟩:=hx
  have hj:j<s.size:=by have:=(List.getElem?_eq_some_iff.1 hc).1;rwa [aX] at this
  have hc':c=(s[j]).toNat:=by
   have:=(List.getElem?_eq_some_iff.1 hc).2;rw [← this];simp [aH];rfl
  unfold xn at hstr
  split at hstr
  .rename_i hu
   refine ⟨.int .u8 ((s[j]).toNat:Int),λ_ _ _ _=>?_,by simp only [Rv];rw [hc'];rfl⟩
   have hg:s[j]?=some s[j]:=getElem?_pos s j hj
   simp [execOp,hx,hy,Instr.index,asIntOf,run_underlying hu,hg]
  .cases hstr
 case agg l=>
  replace e:on (Gn Pr t) (λnk=>Bool.rec none (on (bY nk.2.1 (dB (Nat.mul j nk.2.1) l)) λm=>Ce nk.2.2 m) (Nat.blt j nk.1))=some v:=e
  rw [ah] at e
  obtain ⟨⟨n',k,g⟩,hnk,e⟩:=e
  simp only [aj,ah,dm] at e
  obtain ⟨hlt,m',hm,e⟩:=e
  have hlt:=of_decide_eq_true hlt
  unfold Gn at hnk
  cases harr:D9 Pr t with
  | none=>rw [harr] at hnk;cases hnk
  | some p=>
   obtain ⟨q,el⟩:=p
   rw [harr] at hnk
   simp only at hnk
   cases hk:l6 Pr el with
   | none=>rw [hk] at hnk;cases hnk
   | some k'=>
    cases hg:fV Pr el with
    | none=>rw [hk,hg] at hnk;cases hnk
    | some g'=>
     rw [hk,hg] at hnk
     cases hnk
     have hu:=vg harr
     simp only [Rv] at hx
     obtain ⟨arr,hx,hv⟩:=hx
     obtain ⟨u,hpu,hr⟩:=u6 (w:=w) hg hk hv hm e
     have hs':=jo hk w
     have hpu:(part el arr (j * k)).run Pr w= .ok u w:=hpu
     exact ⟨u,λ_ _ _ _=>by simp [execOp,hx,hy,Instr.index,asIntOf,run_underlying hu,hlt,hs',hpu],hr⟩
end
end Go.Lk
namespace Go.Lk
open Go.Eng Go.RowKit
section
variable {ρ:Ren} {Pr:Program} {m:Nat} {w0:Base} {w:World} {ty t t':TypeId} {σ:T V} {τ:Nat->Value} {h:T Blk} {n:P} {run:fG}
def Bd (d a:Nat) (o:Option Value):Prop:=(o=none/\a=d)\/∃ k,o=some (.int k (a:Int))
theorem cZ (f:Fr ρ m σ τ) {d a:Nat} {x:Option Operand} (e:zL d x σ=some a):Bd d a (x.map (ev m τ)):=by
 cases x with
 | none=>have e:some d=some a:=e;cases e;exact .inl ⟨rfl,rfl⟩
 | some x=>
  have e:on (aJ x σ) (iQ some)=some a:=e
  simp only [ah,eQ] at e
  obtain ⟨v,hv,k,a',rfl,e⟩:=e
  cases e
  have hx:=av f hv
  simp only [Rv] at hx
  exact .inr ⟨k,by rw [Option.map_some,hx];rfl⟩
theorem jX {isS:Bool} {len cap a e:Nat} {lo hi:Option Value} (hlo:Bd 0 a lo) (hhi:Bd len e hi) (h1:a<=e) (h2:e<=cap):(Instr.sliceBounds isS len cap lo hi none).run Pr w= .ok (a,e,cap) w:=by
 rcases hhi with ⟨rfl,rfl⟩ | ⟨k,rfl⟩ <;> rcases hlo with ⟨rfl,rfl⟩ | ⟨k',rfl⟩ <;> simp [Instr.sliceBounds,Instr.sliceBound,asIntOf,h1,h2]
theorem yD {isS:Bool} {len cap a e q:Nat} {lo:Option Value} {k1 k2:IntKind} (hlo:Bd 0 a lo) (h1:a<=e) (h2:e<=q) (h3:q<=cap):(Instr.sliceBounds isS len cap lo (some (.int k1 (e:Int))) (some (.int k2 (q:Int)))).run Pr w= .ok (a,e,q) w:=by
 rcases hlo with ⟨rfl,rfl⟩ | ⟨k',rfl⟩ <;> simp [Instr.sliceBounds,Instr.sliceBound,asIntOf,h1,h2,h3]
theorem lN {el:TypeId} {k a e q len cap:Nat} {ad:Option Addr} {lo hi mx:Option Value} (hu:Pr.underlying t=some (.slice el)) (hs:SZ Pr el k) (hb:(Instr.sliceBounds true len cap lo hi mx).run Pr w= .ok (a,e,q) w) :
  (Instr.sliceAt t (.slice ad len cap) lo hi mx).run Pr w= .ok (.slice (if q=a then ad else ad.map (·.add (a * k))) (e-a) (q-a)) w:=by
 have hs':=hs w;simp [Instr.sliceAt,Instr.slice,run_underlying hu,hb,hs']
theorem Dn {b:P} {L:Loc} {i c e a:Nat} {v:V} (hL:ρ b=some L) (hfit:i+c<=L.cap) (ev:kr b i c e a=some v):a<=e/\e<=c/\Rv ρ v (.slice (if c=a then some ⟨L.c,(L.o+i) * L.k,none⟩ else (some (⟨L.c,(L.o+i) * L.k,none⟩:Addr)).map (·.add (a * L.k))) (e-a) (c-a)):=by
 unfold kr at ev;simp only [aj] at ev;obtain ⟨h1,h2,ev⟩:=ev;cases ev
 have h1:=Nat.le_of_ble_eq_true h1;have h2:=Nat.le_of_ble_eq_true h2;refine ⟨h1,h2,?_⟩;simp only [Rv]
 by_cases hc:c=a
 .have:Nat.beq c a=true:=by rw [jf];simpa using hc
  rw [this,if_pos hc];exact ⟨L,c-a,i,hL,rfl,PL.mkC,Nat.sub_le_sub_right h2 a,by omega⟩
 .have:Nat.beq c a=false:=by rw [jf];simpa using hc
  rw [this,if_neg hc];refine ⟨L,c-a,i+a,hL,?_,PL.mkC,Nat.sub_le_sub_right h2 a,?_⟩
  .rw [Option.map_some,bH,← Nat.add_mul,Nat.add_assoc];rfl
  .show (i+a)+(c-a)<=L.cap;omega
theorem IL {b:P} {L:Loc} {i len e a p c:Nat} {v:V} (hL:ρ b=some L) (hp:PL L i len none p c) (hl:len<=c) (hfit:p+c<=L.cap) (ev:lV b i len e a=some v):a<=e/\e<=c/\
  Rv ρ v (.slice (if c=a then some ⟨L.c,(L.o+p) * L.k,none⟩ else (some (⟨L.c,(L.o+p) * L.k,none⟩:Addr)).map (·.add (a * L.k))) (e-a) (c-a)):=by
 unfold lV at ev;rw [aj] at ev;obtain ⟨h1,ev⟩:=ev;rw [aj] at ev;obtain ⟨h2,ev⟩:=ev;rw [fJ] at ev;have h1:=Nat.le_of_ble_eq_true h1;have h2:=Nat.le_of_ble_eq_true h2;refine ⟨h1,by omega,?_⟩
 rcases ev with ⟨h3,ev⟩ | ⟨h3,ev⟩
 .rw [aj] at ev;obtain ⟨h4,ev⟩:=ev;cases ev
  rw [dm] at h3 h4;have h3:=of_decide_eq_true h3;have h4:=of_decide_eq_true h4;obtain ⟨rfl,rfl⟩:=hp.open (.inl (by omega));rw [if_neg (by omega)];simp only [Rv];refine ⟨L,L.cap-p-a,p+a,hL,?_,?_,Nat.sub_le_sub_right (by omega) a,by omega⟩
  .rw [Option.map_some,bH,← Nat.add_mul,Nat.add_assoc];rfl
  .rw [Nat.sub_sub];exact PL.mkO (.inr h4)
 .rw [fJ] at ev;rw [dm] at h3;have h3:=of_decide_eq_false h3
  rcases ev with ⟨h4,ev⟩ | ⟨h4,ev⟩
  .cases ev
   have h4:=Nat.eq_of_beq_eq_true h4;subst h4
   have:(if c=0 then some ⟨L.c,(L.o+p) * L.k,none⟩ else (some (⟨L.c,(L.o+p) * L.k,none⟩:Addr)).map (·.add (0 * L.k)))=some ⟨L.c,(L.o+p) * L.k,none⟩:=by
    split
    .rfl
    .rw [Option.map_some,bH];simp
   rw [this];simp only [Rv];have hle:len=0\/0<len:=by omega
   have he:e=0\/0<len:=by omega
   refine ⟨L,c,p,hL,by simp,?_,by simpa using Nat.le_trans h2 hl,hfit⟩;have e0:len=0:=by omega
   subst e0;have e1:e=0:=by omega
   subst e1;exact hp
  .rw [aj] at ev;obtain ⟨h5,ev⟩:=ev;cases ev
   rw [dm] at h5;have h5:i+a<MM:=of_decide_eq_true h5;have ha:a≠0:=λh=>by subst h;cases h4
   have hlen:a=len:=by omega
   have hea:e=a:=by omega
   subst hea;obtain ⟨rfl,rfl⟩:=hp.open (.inr (by simp only [KK,MM] at h5 ⊢;omega))
   have d1:(KK+(MM * p+(p+e))-KK) % MM=p+e:=by
    rw [Nat.add_sub_cancel_left,Nat.mul_add_mod,Nat.mod_eq_of_lt h5]
   have d2:(KK+(MM * p+(p+e))-KK) / MM=p:=by
    rw [Nat.add_sub_cancel_left,Nat.mul_add_div (by decide),Nat.div_eq_of_lt h5];rfl
   simp only [Rv];refine ⟨L,L.cap-p-e,if L.cap-(p+e)=0 then p else p+e,hL,?_,?_,by omega,?_⟩
   .rw [Nat.sub_self]
    by_cases hc:L.cap-p=e
    .rw [if_pos hc,if_pos (by omega)]
    .rw [if_neg hc,if_neg (by omega),Option.map_some,bH,← Nat.add_mul,Nat.add_assoc]
   .show PL L (KK+(MM * p+(p+e))) 0 none _ _;unfold PL;simp only;rw [if_pos ⟨trivial,Nat.le_add_right _ _⟩,d1,d2];exact ⟨by omega,rfl⟩
   .split <;> omega
theorem KV (H:Rh w0 ρ h n w) (f:Fr ρ m σ τ) {x:Operand} {lo hi mx:Option Operand} {v:V} (e:(on (aJ x σ) λv=>Bu Pr t lo hi mx v σ h)=some v):∃ u,Ex Pr (ev m τ) w (.slice t x lo hi mx) ty u/\Rv ρ v u:=by
 rw [ah] at e;obtain ⟨a,ha,e⟩:=e;have hx:=av f ha;have out:∀ u,(Instr.sliceAt t (ev m τ x) (lo.map (ev m τ)) (hi.map (ev m τ)) (mx.map (ev m τ))).run Pr w= .ok u w->Ex Pr (ev m τ) w (.slice t x lo hi mx) ty u:=λu hr _ _ _ _=>by simp [execOp,hr]
 cases mx with
 | none=>
  replace e:Gq (xn Pr t) (j3 Pr t) lo hi a σ h=some v:=e
  cases a <;> first | (cases e;done) | skip
  case str l=>
   replace e:Bool.rec none (on (zL (bR l) hi σ) λe=>on (zL 0 lo σ) λa=>rA l e a) (xn Pr t)=some v:=e
   simp only [aj,ah,bO] at e
   obtain ⟨hst,p,hp,q,hq,e⟩:=e
   unfold rA at e
   simp only [aj,ah] at e
   obtain ⟨h1,l',h2,e⟩:=e
   cases e
   have h1:=Nat.le_of_ble_eq_true h1
   obtain ⟨h3,rfl⟩:=bL _ _ _ h2
   simp only [Rv] at hx
   obtain ⟨s,hx,rfl⟩:=hx
   rw [aX] at hp h3
   have hb:=jX (Pr:=Pr) (w:=w) (isS:=false) (cap:=s.size) (cZ f hq) (cZ f hp) h1 h3
   unfold xn at hst
   split at hst
   .rename_i hu
    refine ⟨.string (s.extract q p),out _ (by rw [hx];simp [Instr.sliceAt,Instr.slice,run_underlying hu,hb]),?_⟩
    simp only [Rv]
    refine ⟨_,rfl,?_⟩
    rw [dA]
    simp only [aH,ByteArray.data_extract,Array.toList_extract,List.extract,List.map_take,List.map_drop]
    rw [List.drop_take]
   .cases hst
  case snil=>
   replace e:(on (j3 Pr t) λ_=>on (zL 0 hi σ) λe=>on (zL 0 lo σ) λa=>Bool.rec none (Bool.rec none (some V.snil) (Nat.beq a 0)) (Nat.beq e 0))=some v:=e
   simp only [ah,aj] at e
   obtain ⟨k,hk,p,hp,q,hq,h1,h2,e⟩:=e
   cases e
   have h1:=Nat.eq_of_beq_eq_true h1
   have h2:=Nat.eq_of_beq_eq_true h2
   subst h1 h2
   simp only [Rv] at hx
   obtain ⟨el,hu,hs⟩:=jL hk
   have hb:=jX (Pr:=Pr) (w:=w) (isS:=true) (cap:=0) (cZ f hq) (cZ f hp) (Nat.le_refl _) (Nat.le_refl _)
   exact ⟨.slice none 0 0,out _ (by rw [hx];exact lN hu hs hb),by simp only [Rv]⟩
  case sl b i len c=>
   replace e:mA b (j3 Pr t) h (on (zL len hi σ) λe=>on (zL 0 lo σ) λa=>Option.rec (lV b i len e a) (λc=>kr b i c e a) c)=some v:=e
   obtain ⟨k,hk,hB,e⟩:=lu e
   simp only [ah] at e
   obtain ⟨p,hp,q,hq,e⟩:=e
   obtain ⟨el,hu,hs⟩:=jL hk
   simp only [Rv] at hx
   obtain ⟨L,cc,pp,hL,hx,hc,hl,hfit⟩:=hx
   have hw:=H.wide hB hL
   subst hw
   cases c with
   | some c=>
    obtain ⟨rfl,rfl⟩:=hc.capd
    obtain ⟨h1,h2,hr⟩:=Dn hL hfit e
    exact ⟨_,out _ (by rw [hx];exact lN hu hs (jX (cZ f hq) (cZ f hp) h1 h2)),hr⟩
   | none=>
    obtain ⟨h1,h2,hr⟩:=IL hL hc hl hfit e
    exact ⟨_,out _ (by rw [hx];exact lN hu hs (jX (cZ f hq) (cZ f hp) h1 h2)),hr⟩
 | some y=>
  cases hi with
  | none=>cases e
  | some z=>
   replace e:Az (j3 Pr t) lo z y a σ h=some v:=e
   unfold Az at e
   rw [bu] at e
   rcases e with ⟨_,e⟩ | ⟨b,i,len,c,rfl,e⟩
   .cases e
   .obtain ⟨k,hk,hB,e⟩:=lu e
    simp only [ah,aj] at e
    obtain ⟨p,hp,q,hq,r,hr,h3,h4,e⟩:=e
    have h3:=Nat.le_of_ble_eq_true h3
    rw [dm] at h4
    have h4:=of_decide_eq_true h4
    obtain ⟨el,hu,hs⟩:=jL hk
    simp only [Rv] at hx
    obtain ⟨L,cc,pp,hL,hx,hc,hl,hfit⟩:=hx
    have hw:=H.wide hB hL
    subst hw
    have hrc:r<=cc:=by
     cases c with
     | some c=>rw [hc.capd.2];exact h3
     | none=>exact Nat.le_trans h3 hl
    have bz:=cZ f hp
    have by':=cZ f hr
    rcases bz with ⟨h0,_⟩ | ⟨k1,bz⟩
    .cases h0
    rcases by' with ⟨h0,_⟩ | ⟨k2,by'⟩
    .cases h0
    have hpi:pp=i:=by
     cases c with
     | some c=>exact hc.capd.1
     | none=>exact (hc.open (.inr h4)).1
    subst hpi
    obtain ⟨h1,h2,hr'⟩:=Dn (c:=r) hL (by omega) e
    refine ⟨_,out _ ?_,hr'⟩
    rw [hx,bz,by']
    exact lN hu hs (yD (cZ f hq) h1 h2 hrc)
end
end Go.Lk
namespace Go.Lk
open Go.Eng Go.RowKit
section
variable {ρ:Ren} {Pr:Program} {m:Nat} {w0:Base} {w:World} {ty t t':TypeId} {σ:T V} {τ:Nat->Value} {h:T Blk} {n:P} {run:fG}
theorem Rh.drew (H:Rh w0 ρ h n w):Rh w0 ρ h n w.drew:=⟨H.old.drew,H.kept,H.safe,H.new,H.live,H.apart⟩
theorem Jl {e:TypeId} {a:Nat × Nat} (h:Qo Pr e=some a):∃ i z,Pr.info? e=some i/\i.zero=some z/\z.cells.size=i.size/\0<i.size/\0<i.bytes/\i.size=a.1/\i.bytes=a.2:=by
 unfold Qo at h
 split at h
 .rename_i i hi
  split at h
  .rename_i z hz
   split at h
   .rename_i hc;cases h
    exact ⟨i,z,hi,hz,hc.1,hc.2.1,hc.2.2,rfl,rfl⟩
   .cases h
  .cases h
 .cases h
theorem zq {a:TypeId × Nat × Nat} (h:wC Pr t=some a):Pr.underlying t=some (.slice a.1)/\Qo Pr a.1=some a.2:=by
 unfold wC vJ at h
 split at h
 .rename_i e he
  split at he
  .rename_i hu;cases he
   cases hk:Qo Pr e with
   | none=>simp [hk] at h
   | some k=>simp [hk] at h;subst h;exact ⟨hu,hk⟩
  .cases he
 .cases h
structure AppSrc (Pr:Program) (x:Value) (mm size:Nat) (news:List Value) (w:World):Prop where
 len:∀ w',(Builtin.lenOf x).run Pr w'= .ok mm w'
 first:(Builtin.firstCells size mm x).run Pr w= .ok news.toArray w
 drew:(Builtin.firstCells size mm x).run Pr w.drew= .ok news.toArray w.drew
 size:news.length=mm * size
variable {e u:TypeId} {i:TypeInfo} {z:Value} {x:Value} {mm:Nat} {news:List Value}
theorem nO (ht:Pr.underlying t=some (.slice e)) (hu:∃ d,Pr.underlying u=some d/\∀ k,d≠.int k) (hi:Pr.info? e=some i) (hz:i.zero=some z) {s:Value} {sLen sCap:Nat} {base:Option Addr} (hs:s= .slice base sLen sCap) {olds:List Value}
  (ho:(Builtin.firstCells i.size sLen s).run Pr w.drew= .ok olds.toArray w.drew) (hx:AppSrc Pr x mm i.size news w)
  (hg:sCap<sLen+mm) (h63:((sLen+mm:Nat):Int)<=9223372036854775807) (hfit:Builtin.nextslicecap (sLen+mm) sCap * i.bytes<=281474976710656) :
  (Builtin.append_ #[t,u] ty #[s,x]).run Pr w =
   .ok (.slice (some ⟨w.heap.size,0,none⟩) (sLen+mm) (grownCap w (sLen+mm) sCap e))
    (w.drew.alloc (.cells (olds.toArray++news.toArray++Builtin.zeroCells z.cells (grownCap w (sLen+mm) sCap e-(sLen+mm))) e)):=by
 obtain ⟨d,hd,hdi⟩:=hu;subst hs;have hn:¬ (sLen+mm<=sCap):=by omega
 have h63':¬ (9223372036854775807<((sLen:Int)+(mm:Int))):=by omega
 have h48':¬ (281474976710656<Builtin.nextslicecap (sLen+mm) sCap * i.bytes):=by omega
 have hl:=hx.len w;have hfc:=hx.drew;have hm:(match d with | .int _=>true | _=>false)=false:=by cases d <;> first | exact absurd rfl (hdi _) | rfl
 simp [Builtin.append_,hm,run_underlying ht,run_underlying hd,sizeOf,typeInfo,zeroValue,hi,hz,hl,hn,h63',h48',Question.forced,hfc,ho,newRow,grownCap]
 congr 2
 apply Array.ext';simp [List.append_assoc]
end
end Go.Lk
namespace Go.Lk
open Go.Eng Go.RowKit
section
variable {ρ:Ren} {Pr:Program} {m:Nat} {w0:Base} {w:World} {ty t t':TypeId} {σ:T V} {τ:Nat->Value} {h:T Blk} {n:P} {run:fG}
theorem Cells.append' {hp:Array Obj} {b o:Nat} {xs ys:List Value} (hx:Cells hp b o xs) (hy:Cells hp b (o+xs.length) ys):Cells hp b o (xs++ys):=by
 obtain ⟨c,e,fr,h1,h2⟩:=hx;obtain ⟨c',e',fr',h1',h2'⟩:=hy;rw [h1] at h1';cases h1'
 refine ⟨c,e,fr,h1,λj hj=>?_⟩
 by_cases hlt:j<xs.length
 .rw [List.getElem_append_left hlt];exact h2 j hlt
 .have hj':j-xs.length<ys.length:=by simp only [List.length_append] at hj;omega
  rw [List.getElem_append_right (by omega)];have:=h2' (j-xs.length) hj';rw [← this];congr 1;omega
theorem Rh.flat (H:Rh w0 ρ h n w) {b:P} {L:Loc} {k:Nat} {op:Bool} {rs:List (List V)} (hB:T.get b h=some (.rows t k op rs)) (hL:ρ b=some L):∀ (len i:Nat) (old:List (List V)),len<=(rs.drop i).length->old=(rs.drop i).take len->i<=rs.length->
  ∃ cs,cs.length=len * k/\Cells w.heap L.c ((L.o+i) * L.k) cs/\Rvs ρ old.flatten cs/\∀ r ∈ old,r.length=k
 | 0,i,old,_,ho,_=>by
  subst ho;obtain ⟨_,arr,ha,_⟩:=H.live b _ L hB hL;exact ⟨[],by simp,⟨arr,t,_,ha,λj hj=>absurd hj (by simp)⟩,by simp [Rvs],by simp⟩
 | len+1,i,old,hl,ho,hi=>by
  have hlt:i<rs.length:=by simp only [List.length_drop] at hl;omega
  have hd:rs.drop i=rs[i]::rs.drop (i+1):=List.drop_eq_getElem_cons hlt;obtain ⟨hk,hrl,cs0,hc0,hC0,hv0⟩:=H.row hB hL (List.getElem?_eq_getElem hlt);obtain ⟨cs1,hc1,hC1,hv1,hr1⟩:=Rh.flat H hB hL len (i+1) ((rs.drop (i+1)).take len) (by simp only [List.length_drop] at hl ⊢;omega) rfl (by omega);refine ⟨cs0++cs1,by rw [List.length_append,hc0,hc1,Nat.add_mul];omega,Cells.append' hC0 ?_,?_,?_⟩
  .have:(L.o+i) * L.k+cs0.length=(L.o+(i+1)) * L.k:=by rw [hc0,← hk,← Nat.add_assoc,Nat.add_mul (L.o+i) 1];omega
   rw [this];exact hC1
  .rw [ho,hd,List.take_succ_cons,List.flatten_cons];exact hv0.append hv1
  .rw [ho,hd,List.take_succ_cons];intro r hr
   rcases List.mem_cons.1 hr with rfl | hr
   .exact hrl
   .exact hr1 r hr
theorem iD {β:Type} {kk:Nat} {b:P} {i len:Nat} {f:List (List V)->Option β} {r:β} (e:jm kk b i len h f=some r) :
  ∃ t' op rs old,T.get b h=some (.rows t' kk op rs)/\len<=(rs.drop i).length/\old=(rs.drop i).take len/\f old=some r:=by
 unfold jm at e;simp only [ah,dQ,aj] at e;obtain ⟨B,hB,t',k,op,rs,rfl,hk,old,ht,e⟩:=e;have:=Nat.eq_of_beq_eq_true hk;subst this;rw [dA] at ht;obtain ⟨h1,h2⟩:=bL _ _ _ ht;exact ⟨t',op,rs,old,hB,h1,h2,e⟩
theorem Rb.known {L:Loc} {arr:Array Value} {k:Nat} {rows:List (List V)} {cs:List Value} (hk:L.k=k) (hs:arr.size=(L.o+L.cap) * k) (hl:rows.length<=L.cap) (hr:∀ r ∈ rows,r.length=k) (hv:Rvs ρ rows.flatten cs) (hc:∀ j (_:j<cs.length),arr[L.o * k+j]?=some cs[j]) :
  Rb ρ L (some (.cells arr t (0,0))) (.rows t k true rows):=by
 refine ⟨hk,arr,rfl,hs,hl,(by intro h;cases h),λi row hi=>⟨hr row (List.mem_of_getElem? hi),λj v hj=>?_⟩⟩;obtain ⟨x,hx,hxv⟩:=hv.get' (fE rows hr i j row v hi hj);refine ⟨x,?_,hxv⟩;have hlt:=(List.getElem?_eq_some_iff.1 hx).1;rw [Nat.add_mul,Nat.add_assoc,hc _ hlt];exact (List.getElem?_eq_getElem hlt).symm.trans hx
variable {β:Type} {r:β} {k:V->T Blk->P->Option β} {e u:TypeId} {i:TypeInfo} {z:Value} {X:Value} {mm:Nat} {news:List Value} {new:List (List V)}
theorem mr (H:Rh w0 ρ h n w) (ht:Pr.underlying t=some (.slice e)) (hu:∃ d,Pr.underlying u=some d/\∀ k,d≠.int k) (hi:Pr.info? e=some i) (hz:i.zero=some z) (hzs:z.cells.size=i.size) (hpos:0<i.size) {s:Value} {sLen sCap:Nat} {base:Option Addr} (hs:s= .slice base sLen sCap)
  {olds:List Value} {old:List (List V)} (ho:(Builtin.firstCells i.size sLen s).run Pr w.drew= .ok olds.toArray w.drew) (hol:olds.length=sLen * i.size) (hov:Rvs ρ old.flatten olds) (hor:∀ r ∈ old,r.length=i.size) (hlen:old.length=sLen)
  (hx:AppSrc Pr X mm i.size news w) (hnv:Rvs ρ new.flatten news) (hnr:∀ r ∈ new,r.length=i.size) (hnl:new.length=mm) (hg:sCap<sLen+mm) (hb:(sLen+mm) * i.bytes<=140737488355328) (hmm:sLen+mm<=140737488355328)
  {h':T Blk} (H':Rh w0 ρ h' n w) {len':Nat} (hlen':len'=sLen+mm) (ev:uP e i.size (fF old new) len' h' n k=some r):∃ v w',(Builtin.append_ #[t,u] ty #[s,X]).run Pr w= .ok v w'/\Kx w0 ρ r k v w':=by
 subst hlen';have hrun:=nO (ty:=ty) ht hu hi hz hs ho hx hg (by omega) (growslice_fits hg hb);refine ⟨_,_,hrun,?_⟩;have hge:=grownCap_ge w (sLen+mm) sCap e;generalize grownCap w (sLen+mm) sCap e=cap at hge ⊢;have hD:=H'.drew
 have hrows:∀ r ∈ old++new,r.length=i.size:=λr hr=>by
  rcases List.mem_append.1 hr with h1 | h1
  .exact hor r h1
  .exact hnr r h1
 have hv:Rvs ρ (old++new).flatten (olds++news):=by rw [List.flatten_append];exact hov.append hnv
 have hal:Al w.drew (w.drew.alloc (.cells (olds.toArray++news.toArray++Builtin.zeroCells z.cells (cap-(sLen+mm))) e)) (.cells (olds.toArray++news.toArray++Builtin.zeroCells z.cells (cap-(sLen+mm))) e):=⟨rfl⟩
 have hB:Rb ρ ⟨w.heap.size,0,cap,i.size⟩ (some (.cells (olds.toArray++news.toArray++Builtin.zeroCells z.cells (cap-(sLen+mm))) e (0,0))) (.rows e i.size true (old++new)):=by
  refine Rb.known rfl ?_ (by rw [List.length_append,hlen,hnl];exact hge) hrows hv λj hj=>?_
  .simp only [Array.size_append,List.size_toArray,size_zeroCells,hzs,hol,hx.size,Nat.zero_add,← Nat.add_mul]
   congr 1;omega
  .simp only [Nat.zero_mul,Nat.zero_add];have hcat:olds.toArray++news.toArray=(olds++news).toArray:=by simp
   rw [hcat,Array.getElem?_append_left (by simpa using hj)];simp only [List.getElem?_toArray];exact List.getElem?_eq_getElem hj
 unfold uP eB at ev;rw [il] at ev;refine ⟨ρ.put n ⟨w.heap.size,0,cap,i.size⟩,_,_,_,Ren.le_put H.free,hD.grow hal (.inr rfl) H.free (by rw [P.num_succ];omega) (by rw [P.num_succ];omega) rfl (hB.mono (Ren.le_put H.free)),?_,ev⟩;simp only [Rv];exact ⟨_,cap,0,Ren.put_same,by simp,PL.mkO (.inr (by decide)),hge,by simp⟩
theorem j4 {β:Type} {kk:Nat} {b:P} {i len:Nat} {f:List (List V)->Option β} {r:β} (H:Rh w0 ρ h n w) {L:Loc} (hL:ρ b=some L) (e:dU kk b i len h f=some r) :
  ∃ old,f old=some r/\L.k=kk/\old.length=len/\(0<len->∃ cs,cs.length=len * kk/\Cells w.heap L.c ((L.o+i) * L.k) cs/\Rvs ρ old.flatten cs/\∀ r ∈ old,r.length=kk):=by
 unfold dU at e;rw [ah] at e;obtain ⟨B,hB,e⟩:=e;cases B <;> first | (cases e;done) | skip
 case rows t k op rs=>
  replace e:(Bool.rec none (on (bY len (dB i rs)) f) (Nat.beq k kk):Option β)=some r:=e
  simp only [ah,aj] at e
  obtain ⟨hk,old,ht,e⟩:=e
  have:=Nat.eq_of_beq_eq_true hk
  subst this
  rw [dA] at ht
  obtain ⟨h1,h2⟩:=bL _ _ _ ht
  refine ⟨old,e,H.width hB hL,by rw [h2,List.length_take];omega,λhp=>?_⟩
  exact H.flat hB hL len i old h1 h2 (by simp only [List.length_drop] at h1;omega)
 case fz l=>
  replace e:(Bool.rec none (on (bY len (dB i l)) λm=>f (BC (λc=>[.int .u8 (.ofNat c)]) m)) (Nat.beq kk 1):Option β)=some r:=e
  simp only [ah,aj] at e
  obtain ⟨hk,m,ht,e⟩:=e
  have:=Nat.eq_of_beq_eq_true hk
  subst this
  rw [dA] at ht
  obtain ⟨h1,h2⟩:=bL _ _ _ ht
  obtain ⟨hk,arr,t,fr,ho,hc⟩:=H.live b _ L hB hL
  rw [DA] at e
  refine ⟨_,e,hk,by rw [List.length_map,h2,List.length_take];omega,λhp=>?_⟩
  refine ⟨m.map λc=>Value.int .u8 (.ofNat c),by rw [List.length_map,h2,List.length_take];omega,⟨arr,t,fr,ho,λj hj=>?_⟩,?_,λr hr=>?_⟩
  .rw [List.length_map] at hj
   have hm:l[i+j]?=some m[j]:=by
    rw [← List.getElem?_eq_getElem hj,h2,List.getElem?_take,List.getElem?_drop,if_pos (by rw [h2,List.length_take] at hj;omega)]
   have:=hc _ _ hm
   rw [hk,Nat.mul_one,List.getElem_map,Nat.add_assoc]
   exact this
  .clear e hc h1 h2 ht
   induction m with
   | nil=>simp only [List.map_nil,List.flatten_nil,Rvs]
   | cons c m ih=>simp only [List.map_cons,List.flatten_cons,List.singleton_append,Rvs,Rv];exact ⟨_,_,rfl,rfl,ih⟩
  .obtain ⟨c,_,rfl⟩:=List.mem_map.1 hr;rfl
theorem Rb.writeRows {L:Loc} {arr:Array Value} {kk:Nat} {op:Bool} {rs rs':List (List V)} {i:Nat} (hB:Rb ρ L (some (.cells arr t (0,0))) (.rows t kk op rs)) (ho:gM new i rs=some rs') (hv:Rvs ρ new.flatten news) (hr:∀ r ∈ new,r.length=kk) :
  (L.o+i) * L.k+news.length<=arr.toList.length/\Rb ρ L (some (.cells (aL arr.toList ((L.o+i) * L.k) news).toArray t (0,0))) (.rows t kk op rs'):=by
 obtain ⟨hk,arr',he,hs,hl,hop,hrow⟩:=hB;cases he
 subst hk;obtain ⟨h1,h2⟩:=kG new i rs rs' ho;have hnl:news.length=new.length * L.k:=by rw [hv.length];exact fq new hr
 have hlen':rs'.length=rs.length:=by rw [h2];simp;omega
 have hb:(L.o+i) * L.k+new.length * L.k<=(L.o+L.cap) * L.k:=by
  rw [← Nat.add_mul];exact Nat.mul_le_mul_right L.k (by omega)
 have hal:arr.toList.length=arr.size:=Array.length_toList;have hfit:(L.o+i) * L.k+news.length<=arr.toList.length:=by omega
 refine ⟨hfit,rfl,_,rfl,?_,by omega,by rw [hlen'];exact hop,λq row hq=>?_⟩
 .rw [List.size_toArray,ji hfit,Array.length_toList,hs]
 .rw [h2,eZ h1] at hq
  by_cases hin:i<=q/\q<i+new.length
  .rw [if_pos hin] at hq;refine ⟨hr row (List.mem_of_getElem? hq),λj v hj=>?_⟩;obtain ⟨x,hx,hxv⟩:=hv.get' (fE new hr (q-i) j row v hq hj);refine ⟨x,?_,hxv⟩;have hlt:=(List.getElem?_eq_some_iff.1 hx).1;rw [List.getElem?_toArray];unfold aL;rw [eZ hfit]
   have e1:(L.o+q) * L.k+j=(L.o+i) * L.k+((q-i) * L.k+j):=by
    rw [show L.o+q=(L.o+i)+(q-i) by omega,Nat.add_mul (L.o+i)];omega
   rw [if_pos (by omega),e1,Nat.add_sub_cancel_left];exact hx
  .rw [if_neg hin] at hq;obtain ⟨g1,g2⟩:=hrow q row hq;refine ⟨g1,λj v hj=>?_⟩;obtain ⟨x,hx,hxv⟩:=g2 j v hj;have hjl:j<L.k:=by have:=(List.getElem?_eq_some_iff.1 hj).1;omega
   refine ⟨x,?_,hxv⟩;rw [List.getElem?_toArray];unfold aL;rw [eZ hfit,if_neg,Array.getElem?_toList]
   .exact hx
   .rintro ⟨a1,a2⟩;rw [hnl,← Nat.add_mul] at a2
    rcases Nat.lt_or_ge q i with hqi | hqi
    .have:(L.o+q+1) * L.k<=(L.o+i) * L.k:=Nat.mul_le_mul_right _ (by omega);rw [Nat.add_mul] at this;omega
    .have:(L.o+i+new.length) * L.k<=(L.o+q) * L.k:=Nat.mul_le_mul_right _ (by omega);omega
theorem rH (ht:Pr.underlying t=some (.slice e)) (hu:∃ d,Pr.underlying u=some d/\∀ k,d≠.int k) (hi:Pr.info? e=some i) {b off sLen sCap:Nat} {cs:List Value} {tt:TypeId} (hx:AppSrc Pr X mm i.size news w) (h1:∀ u ∈ news,K9 u)
  (hroom:sLen+mm<=sCap) (hb:Go.Eng.Blk w.heap b cs tt) (hfit:off+sLen * i.size+news.length<=cs.length) :
  ∃ w',Pt w w' b (.cells (aL cs (off+sLen * i.size) news).toArray tt (0,0))/\(Builtin.append_ #[t,u] ty #[.slice (some ⟨b,off,none⟩) sLen sCap,X]).run Pr w= .ok (.slice (some ⟨b,off,none⟩) (sLen+mm) sCap) w':=by
 obtain ⟨d,hd,hdi⟩:=hu;obtain ⟨w',hp,hst⟩:=fM (P:=Pr) news 0 (off+sLen * i.size) cs w hb (by simpa using hfit) h1;simp only [Nat.add_zero] at hst hp;have hl:=hx.len w;have hfc:=hx.first;refine ⟨w',hp,?_⟩;have hm:(match d with | .int _=>true | _=>false)=false:=by cases d <;> first | exact absurd rfl (hdi _) | rfl
 simp [Builtin.append_,hm,run_underlying ht,run_underlying hd,sizeOf,typeInfo,hi,hl,hroom,hfc,Addr.add_lit,hst]
end
end Go.Lk
