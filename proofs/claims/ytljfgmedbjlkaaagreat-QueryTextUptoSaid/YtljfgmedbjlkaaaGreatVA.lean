/- Places in arrays that are values, cuts of texts, other ways to leave, a scope with three labels. -/
import Derived.Test.YtljfgmedbjlkaaaGreatSli
import Derived.ScopeJumps
import Derived.Test.YtljfgmedbjlkaaaGreatV8
namespace Go.Eng
open Go.RowKit
variable {rr:Option Nat}
section
variable {P:Program} {Q:Exit->Act->World->Prop} {n:Nat} {σ:Nat->Value} {ds:List Deferred} {w:World}
theorem O4 {c rest:Code} {l:Nat} {α:Type} (V:α->List (Nat × Value)) (Inv:α->World->Prop) (μ:α->Nat) (hf:findLabel c l=some rest) {a:Act}
  (first:c.wq rr P (Exit.jump l (λa' w'=>∃ σ' x',a'=F n σ' ds/\zM σ' (V x')/\Inv x' w') Q) a w)
  (pass:∀ τ x w,Inv x w->rest.wq rr P (Exit.jump l (λa' w'=>∃ σ' x',a'=F n σ' ds/\zM σ' (V x')/\Inv x' w'/\μ x'<μ x) Q) (F n (Lh (V x) τ) ds) w):(Code.scope c).wq rr P Q a w:=by
 intro b k cs hro hb hr;have hg:gotoIn l (.inScope c::k)=some (.code rest::.inScope c::k):=by simp [gotoIn,hf]
 have key:∀ m σ x w,μ x=m->zM σ (V x)->Inv x w->∃ e a' w',Q e a' w'/\ArrivesIn (Machine.fenced P (zu rr)) P (lone (b.atR (F n σ ds) (.code rest::.inScope c::k)) cs w) b k cs e a' w':=by
  intro m
  induction m using Nat.strongRecOn with
  | _ m ih=>
   intro σ x w hm hV hI
   have hp:=pass σ x w hI
   rw [kN hV] at hp
   obtain ⟨e,a₁,w₁,hq,harr⟩:=hp b (.inScope c::k) cs hro hb hr
   cases e with
   | normal=>exact ⟨.normal,a₁,w₁,hq,StepsIn.trans harr (.one (fenced_calm hb hr rfl) kK)⟩
   | exit id=>
    have hx:exitTo id (.inScope c::k)=exitTo id k:=by simp [exitTo]
    exact ⟨.exit id,a₁,w₁,hq,λk' hk=>harr.1 k' (by rw [hx];exact hk),λhr' hk=>let ⟨k₁,h1,h2⟩:=harr.2 hr' (by rw [hx];exact hk);⟨k₁,h1,h2⟩⟩
   | goto l'=>
    obtain ⟨rfl,σ',x',rfl,hV',hI',hlt⟩:=hq
    obtain ⟨e₂,a₂,w₂,hq₂,harr₂⟩:=ih _ (by omega) σ' x' w₁ rfl hV' hI'
    exact ⟨e₂,a₂,w₂,hq₂,.of_steps (harr.1 _ hg) harr₂⟩
   | ret=>exact ⟨_,a₁,w₁,hq,harr⟩
   | panic ch=>exact ⟨_,a₁,w₁,hq,harr⟩
   | outgrown=>exact ⟨_,a₁,w₁,hq,harr⟩
 have key0:∃ e a' w',Q e a' w'/\ArrivesIn (Machine.fenced P (zu rr)) P (lone (b.atR a (.code c::.inScope c::k)) cs w) b k cs e a' w':=by
  obtain ⟨e,a₁,w₁,hq,harr⟩:=first b (.inScope c::k) cs hro hb hr
  cases e with
  | normal=>exact ⟨.normal,a₁,w₁,hq,StepsIn.trans harr (.one (fenced_calm hb hr rfl) kK)⟩
  | exit id=>
   have hx:exitTo id (.inScope c::k)=exitTo id k:=by simp [exitTo]
   exact ⟨.exit id,a₁,w₁,hq,λk' hk=>harr.1 k' (by rw [hx];exact hk),λhr' hk=>let ⟨k₁,h1,h2⟩:=harr.2 hr' (by rw [hx];exact hk);⟨k₁,h1,h2⟩⟩
  | goto l'=>
   obtain ⟨rfl,σ',x',rfl,hV',hI'⟩:=hq
   obtain ⟨e₂,a₂,w₂,hq₂,harr₂⟩:=key _ σ' x' w₁ rfl hV' hI'
   exact ⟨e₂,a₂,w₂,hq₂,.of_steps (harr.1 _ hg) harr₂⟩
  | ret=>exact ⟨_,a₁,w₁,hq,harr⟩
  | panic ch=>exact ⟨_,a₁,w₁,hq,harr⟩
  | outgrown=>exact ⟨_,a₁,w₁,hq,harr⟩
 obtain ⟨e,a',w',hq,harr⟩:=key0;exact ⟨e,a',w',hq,.of_steps (.one (fenced_calm hb hr rfl) ww) harr⟩
end
end Go.Eng
namespace Go.Eng
open Go.RowKit
variable {rr:Option Nat}
section
variable {P:Program} {n:Nat} {σ:Nat->Value} {w:World} {ty t t':TypeId} {x y z:Operand}
theorem G9 {a b:Nat} (hx:ev n σ x= .int .u8 (a:Int)) (hy:ev n σ y= .int .u8 (b:Int)) (hb:0<b):Ex P (ev n σ) w (.binOp .rem t x y t') ty (.int .u8 ((a % b:Nat):Int)):=by
 intro _ _ _ _;have e:Int.tmod (a:Int) (b:Int)=((a % b:Nat):Int):=by rw [Int.tmod_eq_emod_of_nonneg (by omega)];rfl
 have h0':b≠0:=by omega
 simp [execOp,hx,hy,eqGuard,binOp,Op.intDiv,h0',e]
theorem Sk {a b:Int} (c:Int) (hx:ev n σ x= .int .i64 a) (hy:ev n σ y= .int .i64 b) (h:a+b=c) (hr:PM c):Ex P (ev n σ) w (.binOp .add t x y t') ty (.int .i64 c):=by
 subst h;exact uz hx hy hr
theorem leave3 {P:Program} {fn:Func} {R:Ending->World->Prop} {n:Nat} {σ:Nat->Value} {w:World} {t u s:Nat} {v v' v'':Value} (hr:fn.results=#[.tmp t,.tmp u,.tmp s]) (ht:ev n σ (.tmp t)=v) (hu:ev n σ (.tmp u)=v') (hs:ev n σ (.tmp s)=v'')
  (h:R (.returned (.tuple #[v,v',v''])) w):bodyPost P fn R .ret (F n σ []) w:=by
 refine ⟨rfl,_,?_,h⟩;have h1:(F n σ []).tmps.getD t undef=v:=by rw [← ht,← aP n σ []];rfl
 have h2:(F n σ []).tmps.getD u undef=v':=by rw [← hu,← aP n σ []];rfl
 have h3:(F n σ []).tmps.getD s undef=v'':=by rw [← hs,← aP n σ []];rfl
 rw [← h1,← h2,← h3];simp [results,hr]
end
section
variable {P:Program} {Q:Exit->Act->World->Prop} {n:Nat} {ds:List Deferred} {w:World}
end
end Go.Eng
namespace Go.Eng
open Go.RowKit
structure EQ3 (P:Program) (t:TypeId):Prop where
 fs:∃ f1 f2 f3:Field,P.underlying t=some (.struct #[f1,f2,f3])/\(f1.name == "_")=false/\(f2.name == "_")=false/\(f3.name == "_")=false/\f1.offset=0/\f2.offset=1/\f3.offset=2/\P.underlying f1.type=some .string/\P.underlying f2.type=some .string/\P.underlying f3.type=some .bool
 st:P.stoodInHeld t=false
 gd:P.eqGuardType P.depth t=false
theorem Nw (a b:ByteArray):(a == b)=decide (a=b):=by
 cases a with | mk d1=>
 cases b with | mk d2=>
 show ByteArray.beq ⟨d1⟩ ⟨d2⟩=_;rw [ByteArray.beq];have h:(d1 == d2)=decide (d1=d2):=by rw [Bool.eq_iff_iff];simp
 rw [h];exact decide_eq_decide.2 ⟨λe=>by rw [e],λe=>by injection e⟩
theorem iH {P:Program} {t:TypeId} (hT:P.underlying t=some .string) (d:Nat) (a b:ByteArray) (w:World):(Op.equalIn (d+1) t (.string a) (.string b)).run P w= .ok (decide (a=b)) w:=by
 simp [Op.equalIn,run_underlying hT,Nw]
theorem J3 {P:Program} {t:TypeId} (h:EQ3 P t) (d:Nat) (a b a' b':ByteArray) (c c':Bool) (w:World):(Op.equalIn (d+2) t (.agg #[.string a,.string b,.bool c]) (.agg #[.string a',.string b',.bool c'])).run P w= .ok (decide (a=a'/\b=b'/\c=c')) w:=by
 obtain ⟨⟨f1,f2,f3,hT,h1,h2,h3,o1,o2,o3,u1,u2,u3⟩,hst,_⟩:=h;have e1:¬ f1.name= "_" :=by simpa using h1
 have e2:¬ f2.name= "_" :=by simpa using h2
 have e3:¬ f3.name= "_" :=by simpa using h3
 rw [Op.equalIn];simp [run_underlying hT,hst,part,isAgg,run_underlying u1,run_underlying u2,run_underlying u3,o1,o2,o3,e1,e2,e3,iH u1,iH u2,λd (p q:Bool)=>pI (P:=P) (w:=w) (p:=p) (q:=q) d u3]
 by_cases ha:a=a' <;> by_cases hb:b=b' <;> by_cases hc:c=c' <;> simp [ha,hb,hc]
section
variable {P:Program} {n:Nat} {σ:Nat->Value} {w:World} {ty t t':TypeId} {x y:Operand} {a b a' b':ByteArray} {c c':Bool}
end
end Go.Eng
namespace Go.Eng
open Go.RowKit
structure EQK (P:Program) (t:TypeId):Prop where
 fs:∃ f1 f2 f3 f4:Field,P.underlying t=some (.struct #[f1,f2,f3,f4])/\(f1.name == "_")=false/\(f2.name == "_")=false/\(f3.name == "_")=false/\(f4.name == "_")=false/\f1.offset=0/\f2.offset=1/\f3.offset=2/\f4.offset=3/\P.underlying f1.type=some (.int .i64)/\P.underlying f2.type=some .string/\P.underlying f3.type=some (.int .i64)/\P.underlying f4.type=some (.int .i64)
 st:P.stoodInHeld t=false
 gd:P.eqGuardType P.depth t=false
structure EQT (P:Program) (t:TypeId):Prop where
 fs:∃ f1 f2:Field,P.underlying t=some (.struct #[f1,f2])/\(f1.name == "_")=false/\(f2.name == "_")=false/\f1.offset=0/\f2.offset=1/\P.underlying f1.type=some .bool/\P.underlying f2.type=some .string
 st:P.stoodInHeld t=false
 gd:P.eqGuardType P.depth t=false
theorem Cn {P:Program} {t:TypeId} (h:EQT P t) (d:Nat) (a a':Bool) (s s':ByteArray) (w:World):(Op.equalIn (d+2) t (.agg #[.bool a,.string s]) (.agg #[.bool a',.string s'])).run P w= .ok (decide ((a,s)=(a',s'))) w:=by
 obtain ⟨⟨f1,f2,hT,h1,h2,o1,o2,u1,u2⟩,hst,_⟩:=h;have e1:¬ f1.name= "_" :=by simpa using h1
 have e2:¬ f2.name= "_" :=by simpa using h2
 rw [Op.equalIn];simp [run_underlying hT,hst,part,isAgg,run_underlying u1,run_underlying u2,o1,o2,e1,e2,iH u2,λd (p q:Bool)=>pI (P:=P) (w:=w) (p:=p) (q:=q) d u1]
 by_cases ha:a=a' <;> by_cases hs:s=s' <;> simp [ha,hs]
section
variable {P:Program} {n:Nat} {σ:Nat->Value} {w:World} {ty t t':TypeId} {x y:Operand}
theorem gG {a a':Bool} {s s':ByteArray} (h:EQT P t) (hx:ev n σ x= .agg #[.bool a,.string s]) (hy:ev n σ y= .agg #[.bool a',.string s']):Ex P (ev n σ) w (.binOp .eql t x y t') ty (.bool (decide ((a,s)=(a',s')))):=by
 intro _ _ _ _;have h1:=Cn h 9998 a a' s s' w;have h2:=h.gd;simp [execOp,hx,hy,eqGuard,binOp,Op.equal,Op.maxDepth,h1,h2]
theorem wF {a a':Bool} {s s':ByteArray} (h:EQT P t) (hx:ev n σ x= .agg #[.bool a,.string s]) (hy:ev n σ y= .agg #[.bool a',.string s']):Ex P (ev n σ) w (.binOp .neq t x y t') ty (.bool (decide (¬ ((a,s)=(a',s'))))):=by
 intro _ _ _ _;have h1:=Cn h 9998 a a' s s' w;have h2:=h.gd;simp [execOp,hx,hy,eqGuard,binOp,Op.equal,Op.maxDepth,h1,h2]
end
end Go.Eng
