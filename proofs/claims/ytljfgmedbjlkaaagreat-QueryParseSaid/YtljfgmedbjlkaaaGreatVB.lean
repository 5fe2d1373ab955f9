/- Edges: two texts and a sign; two of them held against each other. -/
import Derived.Test.YtljfgmedbjlkaaaGreatSli
import Derived.Test.YtljfgmedbjlkaaaGreatVA
namespace Go.Eng
open Go.RowKit
structure EQ3 (P:Program) (t:TypeId):Prop where
 fs:∃ f1 f2 f3:Field,P.underlying t=some (.struct #[f1,f2,f3])∧(f1.name == "_")=false∧(f2.name == "_")=false∧(f3.name == "_")=false∧f1.offset=0∧f2.offset=1∧f3.offset=2∧P.underlying f1.type=some .string∧P.underlying f2.type=some .string∧P.underlying f3.type=some .bool
 st:P.stoodInHeld t=false
 gd:P.eqGuardType P.depth t=false
theorem ba_beq (a b:ByteArray):(a == b)=decide (a=b):=by
 cases a with | mk d1=>
 cases b with | mk d2=>
 show ByteArray.beq ⟨d1⟩ ⟨d2⟩=_
 rw [ByteArray.beq]
 have h:(d1 == d2)=decide (d1=d2):=by rw [Bool.eq_iff_iff];simp
 rw [h]
 exact decide_eq_decide.2 ⟨fun e=>by rw [e],fun e=>by injection e⟩
theorem eqIn_str {P:Program} {t:TypeId} (hT:P.underlying t=some .string) (d:Nat) (a b:ByteArray) (w:World):(Op.equalIn (d+1) t (.string a) (.string b)).run P w= .ok (decide (a=b)) w:=by
 simp [Op.equalIn,run_underlying hT,ba_beq]
section
variable {P:Program} {n:Nat} {σ:Nat→Value} {w:World} {ty t t':TypeId} {x y:Operand} {a b a' b':ByteArray} {c c':Bool}
end
end Go.Eng
namespace Go.Eng
open Go.RowKit
/-- a number, a text, two numbers -/
structure EQK (P:Program) (t:TypeId):Prop where
 fs:∃ f1 f2 f3 f4:Field,P.underlying t=some (.struct #[f1,f2,f3,f4])∧(f1.name == "_")=false∧(f2.name == "_")=false∧(f3.name == "_")=false∧(f4.name == "_")=false∧f1.offset=0∧f2.offset=1∧f3.offset=2∧f4.offset=3∧P.underlying f1.type=some (.int .i64)∧P.underlying f2.type=some .string∧P.underlying f3.type=some (.int .i64)∧P.underlying f4.type=some (.int .i64)
 st:P.stoodInHeld t=false
 gd:P.eqGuardType P.depth t=false
theorem run_eqK {P:Program} {t:TypeId} (h:EQK P t) (d:Nat) (a b c a' b' c':Int) (s s':ByteArray) (w:World):(Op.equalIn (d+2) t (.agg #[.int .i64 a,.string s,.int .i64 b,.int .i64 c]) (.agg #[.int .i64 a',.string s',.int .i64 b',.int .i64 c'])).run P w= .ok (decide (a=a'∧s=s'∧b=b'∧c=c')) w:=by
 obtain ⟨⟨f1,f2,f3,f4,hT,h1,h2,h3,h4,o1,o2,o3,o4,u1,u2,u3,u4⟩,hst,_⟩:=h
 have e1:¬ f1.name= "_" :=by simpa using h1
 have e2:¬ f2.name= "_" :=by simpa using h2
 have e3:¬ f3.name= "_" :=by simpa using h3
 have e4:¬ f4.name= "_" :=by simpa using h4
 rw [Op.equalIn]
 simp [run_underlying hT,hst,part,isAgg,run_underlying u1,run_underlying u2,run_underlying u3,run_underlying u4,o1,o2,o3,o4,e1,e2,e3,e4,eqIn_str u2,eqIn_int u1,eqIn_int u3,eqIn_int u4]
 by_cases ha:a=a' <;> by_cases hs:s=s' <;> by_cases hb:b=b' <;> by_cases hc:c=c' <;> simp [ha,hs,hb,hc]
/-- a truth value, a text -/
structure EQT (P:Program) (t:TypeId):Prop where
 fs:∃ f1 f2:Field,P.underlying t=some (.struct #[f1,f2])∧(f1.name == "_")=false∧(f2.name == "_")=false∧f1.offset=0∧f2.offset=1∧P.underlying f1.type=some .bool∧P.underlying f2.type=some .string
 st:P.stoodInHeld t=false
 gd:P.eqGuardType P.depth t=false
theorem run_eqT {P:Program} {t:TypeId} (h:EQT P t) (d:Nat) (a a':Bool) (s s':ByteArray) (w:World):(Op.equalIn (d+2) t (.agg #[.bool a,.string s]) (.agg #[.bool a',.string s'])).run P w= .ok (decide ((a,s)=(a',s'))) w:=by
 obtain ⟨⟨f1,f2,hT,h1,h2,o1,o2,u1,u2⟩,hst,_⟩:=h
 have e1:¬ f1.name= "_" :=by simpa using h1
 have e2:¬ f2.name= "_" :=by simpa using h2
 rw [Op.equalIn]
 simp [run_underlying hT,hst,part,isAgg,run_underlying u1,run_underlying u2,o1,o2,e1,e2,eqIn_str u2,fun d (p q:Bool)=>eqIn_bool (P:=P) (w:=w) (p:=p) (q:=q) d u1]
 by_cases ha:a=a' <;> by_cases hs:s=s' <;> simp [ha,hs]
section
variable {P:Program} {n:Nat} {σ:Nat→Value} {w:World} {ty t t':TypeId} {x y:Operand}
theorem x_neqK {a b c a' b' c':Int} {s s':ByteArray} (h:EQK P t) (hx:ev n σ x= .agg #[.int .i64 a,.string s,.int .i64 b,.int .i64 c]) (hy:ev n σ y= .agg #[.int .i64 a',.string s',.int .i64 b',.int .i64 c']):Ex P (ev n σ) w (.binOp .neq t x y t') ty (.bool (decide (¬ (a=a'∧s=s'∧b=b'∧c=c')))):=by
 intro _ _ _ _
 have h1:=run_eqK h 9998 a b c a' b' c' s s' w
 have h2:=h.gd
 simp [execOp,hx,hy,eqGuard,binOp,Op.equal,Op.maxDepth,h1,h2]
/-- with values as they stand -/
theorem x_eqlT' {a a':Bool} {s s':ByteArray} (h:EQT P t) (hx:ev n σ x= .agg #[.bool a,.string s]) (hy:ev n σ y= .agg #[.bool a',.string s']):Ex P (ev n σ) w (.binOp .eql t x y t') ty (.bool (decide ((a,s)=(a',s')))):=by
 intro _ _ _ _
 have h1:=run_eqT h 9998 a a' s s' w
 have h2:=h.gd
 simp [execOp,hx,hy,eqGuard,binOp,Op.equal,Op.maxDepth,h1,h2]
theorem x_neqT' {a a':Bool} {s s':ByteArray} (h:EQT P t) (hx:ev n σ x= .agg #[.bool a,.string s]) (hy:ev n σ y= .agg #[.bool a',.string s']):Ex P (ev n σ) w (.binOp .neq t x y t') ty (.bool (decide (¬ ((a,s)=(a',s'))))):=by
 intro _ _ _ _
 have h1:=run_eqT h 9998 a a' s s' w
 have h2:=h.gd
 simp [execOp,hx,hy,eqGuard,binOp,Op.equal,Op.maxDepth,h1,h2]
end
end Go.Eng
