/- A use held against the empty use. Over any program. -/
import Derived.Test.YtljfgmedbjlkaaaGreatVA
import Derived.Test.YtljfgmedbjlkaaaGreatV3
namespace Go.Eng
open Go.RowKit
structure EQU (P:Program) (t:TypeId):Prop where
 fs:∃ f1 f2 f3:Field,P.underlying t=some (.struct #[f1,f2,f3])/\(f1.name == "_")=false/\(f2.name == "_")=false/\(f3.name == "_")=false/\f1.offset=0/\f2.offset=1/\f3.offset=2/\P.underlying f1.type=some (.int .i64)/\P.underlying f2.type=some (.int .i64)/\P.underlying f3.type=some .string
 st:P.stoodInHeld t=false
 gd:P.eqGuardType P.depth t=false
theorem JW {P:Program} {t:TypeId} (h:EQU P t) (d:Nat) (a b a' b':Int) (s s':ByteArray) (w:World):(Op.equalIn (d+2) t (.agg #[.int .i64 a,.int .i64 b,.string s]) (.agg #[.int .i64 a',.int .i64 b',.string s'])).run P w= .ok (decide (a=a'/\b=b'/\s=s')) w:=by
 obtain ⟨⟨f1,f2,f3,hT,h1,h2,h3,o1,o2,o3,u1,u2,u3⟩,hst,_⟩:=h;have e1:¬ f1.name= "_" :=by simpa using h1
 have e2:¬ f2.name= "_" :=by simpa using h2
 have e3:¬ f3.name= "_" :=by simpa using h3
 rw [Op.equalIn];simp [run_underlying hT,hst,part,isAgg,run_underlying u1,run_underlying u2,run_underlying u3,o1,o2,o3,e1,e2,e3,iH u3,mR u1,mR u2]
 by_cases ha:a=a' <;> by_cases hs:b=b' <;> by_cases hb:s=s' <;> simp [ha,hs,hb]
section
variable {P:Program} {n:Nat} {σ:Nat->Value} {w:World} {ty t t':TypeId} {x y:Operand}
theorem Ji {a b a' b':Int} {s s':ByteArray} (h:EQU P t) (hx:ev n σ x= .agg #[.int .i64 a,.int .i64 b,.string s]) (hy:ev n σ y= .agg #[.int .i64 a',.int .i64 b',.string s']):Ex P (ev n σ) w (.binOp .neq t x y t') ty (.bool (decide (¬ (a=a'/\b=b'/\s=s')))):=by
 intro _ _ _ _;have h1:=JW h 9998 a b a' b' s s' w;have h2:=h.gd;simp [execOp,hx,hy,eqGuard,binOp,Op.equal,Op.maxDepth,h1,h2]
theorem J7 {a b:Int} {s:ByteArray} (h:EQU P t) (hx:ev n σ x= .agg #[.int .i64 a,.int .i64 b,.string s]) (hy:ev n σ y= .agg #[.int .i64 a,.int .i64 b,.string s]):Ex P (ev n σ) w (.binOp .neq t x y t') ty (.bool false):=by
 have:=Ji (ty:=ty) (t':=t') (w:=w) h hx hy
 simpa using this
theorem Lj {a b a' b':Int} {s s':ByteArray} (h:EQU P t) (hx:ev n σ x= .agg #[.int .i64 a,.int .i64 b,.string s]) (hy:ev n σ y= .agg #[.int .i64 a',.int .i64 b',.string s']) (hn:a≠a'):Ex P (ev n σ) w (.binOp .neq t x y t') ty (.bool true):=by
 have:=Ji (ty:=ty) (t':=t') (w:=w) h hx hy
 simpa [hn] using this
structure FD (P:Program) (t:TypeId) (f off:Nat):Prop where
 fs:∃ (fl:Array Field) (fd:Field),P.underlying t=some (.struct fl)/\fl[f]?=some fd/\fd.offset=off/\NA P fd.type
theorem yM {f off:Nat} {cs:List Value} {v:Value} (h:FD P t f off) (hx:ev n σ x= .agg cs.toArray) (hv:cs[off]?=some v):Ex P (ev n σ) w (.field t x f) ty v:=by
 intro _ _ _ _;obtain ⟨fl,fd,h1,h2,h3,h4⟩:=h.fs;have h5:=h4 w
 have h6:(part fd.type cs.toArray fd.offset).run P w= .ok v w:=by
  simp only [part,Sem.run_bind,h5,Result.andThen_ok];rw [h3];simp [hv]
 simp [execOp,hx,Instr.field,run_underlying h1,h2,asAgg,h6]
end
end Go.Eng
namespace Go.Eng
open Go.RowKit
variable {rr:Option Nat}
section
theorem zR {cs:List Value} {o:Nat} {v:Value} (h:o<cs.length):aL cs o [v]=cs.set o v:=by
 rw [List.set_eq_take_append_cons_drop,if_pos h];simp [aL]
theorem uZ {α:Type} [Inhabited α] {enc:α->List Value} {k:Nat} (hk:∀ x,(enc x).length=k) (R:List Value) (v:Value) (u:α) (f:Nat) (hf:f<k):∀ (xs:List α) (i:Nat),i<xs.length->enc u=(enc (el xs i)).set f v->(flat enc xs++R).set (i * k+f) v=flat enc (xs.set i u)++R
 | [],i,h,_=>by simp at h
 | x::xs,0,_,hu=>by
  have e:flat enc (x::xs)=enc x++flat enc xs:=by simp [flat]
  have e2:flat enc (u::xs)=enc u++flat enc xs:=by simp [flat]
  have e3:el (x::xs) 0=x:=rfl;rw [e3] at hu;rw [List.set_cons_zero,e,e2,hu,Nat.zero_mul,Nat.zero_add,List.append_assoc,List.append_assoc,List.set_append_left _ _ (by rw [hk];exact hf)]
 | x::xs,i+1,h,hu=>by
  have e:flat enc (x::xs)=enc x++flat enc xs:=by simp [flat]
  have e2:flat enc (x::xs.set i u)=enc x++flat enc (xs.set i u):=by simp [flat]
  have e3:el (x::xs) (i+1)=el xs i:=rfl;rw [e3] at hu;have ih:=uZ hk R v u f hf xs i (by simpa using h) hu;rw [List.set_cons_succ,e,e2,List.append_assoc,List.append_assoc,← ih,List.set_append_right _ _ (by rw [hk,Nat.succ_mul];omega),hk,Nat.succ_mul]
  congr 2
  omega
variable {α:Type} {P:Program} {n:Nat} {σ:Nat->Value} {w w' w0:World} {ty t:TypeId} {x y:Operand} {S:Nat->Prop} {L:List Ch} {K:Value->World->Prop} {E:En α} {m c:Nat} {a:Option Addr} {xs:List α}
theorem EsoF [Inhabited α] {T:TypeId} {j f:Nat} {v:Value} (H:Hp S w0 w L) (i:Nat) (u:α) (hs:SZ P t 1) (hx:ev n σ x= .pointer (some ⟨ab a,ao a+j * E.k+f,none⟩)) (hi:L[i]?=some (cQ T E a m c xs)) (hy:ev n σ y=v) (hv:v.cells.toList=[v]) (h1:v.oneCell'=true) (hu:E.enc u=(E.enc (el xs j)).set f v) (hf:Nat.blt f E.k=true) (hj:j<m)
  (k:∀ w',Hp S w0 w' (L.set i (cQ T E a m c (xs.set j u)))->K undef w'):fU P (ev n σ) w (.store t x y) ty K:=by
 have ho:OwnQ w.heap T E.k a m c (flat E.enc xs):=H.at i hi;have hl:=Srm.len (E:=E) ho.src;have hf:f<E.k:=by rwa [Nat.blt_eq] at hf
 obtain ⟨h1',h2 | ⟨b,R,h0,rfl,hB,hm,hc,hR⟩⟩:=ho
 .omega
 have hsz:v.cells.size=1:=by rw [← Array.length_toList,hv];rfl
 have hlt:j * E.k+f<(flat E.enc xs++R).length:=by
  rw [List.length_append,aI E.len];have:(j+1) * E.k<=xs.length * E.k:=Nat.mul_le_mul_right _ (by omega);rw [Nat.add_mul] at this;omega
 have hx':ev n σ x= .pointer (some ⟨b,j * E.k+f,none⟩):=by
  rw [hx];show Value.pointer (some ⟨b,0+j * E.k+f,none⟩)=_;rw [Nat.zero_add]
 refine qV (v:=v) (by rw [hsz];exact hs) hx' hy hB (by rw [hsz];omega) (λz hz=>zS (by rw [hv,List.mem_singleton] at hz;subst hz;exact h1)) λw' hp=>?_
 have e:aL (flat E.enc xs++R) (j * E.k+f) v.cells.toList=flat E.enc (xs.set j u)++R:=by
  rw [hv,zR hlt,uZ E.len R v u f hf xs j (by omega) hu]
 rw [e] at hp;refine k w' (H.upd i hi (S':=λz=>z=b) ((Mod.refl _ w).pt hp (.inl rfl)) (λz hz=>by rw [hz];exact ⟨h0,rfl⟩) ?_ λz hz=>?_)
 .refine ⟨by rw [aI E.len,List.length_set,hl],.inr ⟨b,R,h0,rfl,hp.new,hm,hc,?_⟩⟩;rw [← hR,List.length_append,List.length_append,aI E.len,aI E.len,List.length_set]
 .obtain ⟨_,e⟩:=hz;injection e with e;subst e;have hb2:Blk w'.heap b (flat E.enc (xs.set j u)++R) T:=hp.new;exact ⟨hb2.lt,.inl ⟨h0,rfl⟩⟩
def cE:Ch:=⟨λ_=>False,λ_=>True,λ_ _=>trivial⟩
def cJ (c d:Ch):Ch:=⟨λb=>c.foot b\/d.foot b,λh=>c.says h/\d.says h,λhs hk=>⟨c.keep hs.1 λb hb=>hk b (.inl hb),d.keep hs.2 λb hb=>hk b (.inr hb)⟩⟩
variable {d:Ch} {N:Nat} {f:Nat->Ch}
theorem Hp.void (H:Hp S w0 w L):Hp S w0 w (cE::L):=
 H.app' (M:=[cE]) ⟨Mod.refl _ _,λc hc=>by rw [List.mem_singleton] at hc;subst hc;exact trivial,λc hc b hb=>(by rw [List.mem_singleton] at hc;subst hc;exact hb.elim),List.pairwise_singleton _ _⟩
theorem Hp.melt {c:Ch} (H:Hp S w0 w (c::L)) (i:Nat) (hi:L[i]?=some d):Hp S w0 w (L.set i (cJ d c)):=H.join i hi (λhc hd=>⟨hd,hc⟩) λb hb=>hb.symm
theorem Hp.fout (H:Hp S w0 w L) (i:Nat) (hi:L[i]?=some (cF N f)) {j:Nat} (hj:j<N):Hp S w0 w (f j::L.set i (cF N (ins f j cE))):=
 H.split i hi (λhs=>⟨hs.1 j hj,⟨λk hk=>by
  by_cases e:k=j
  .rw [e,dN];exact trivial
  .rw [aW e];exact hs.1 k hk,λp q hp hq hpq b hb hb'=>by
  by_cases e1:p=j
  .rw [e1,dN] at hb;exact hb
  .by_cases e2:q=j
   .rw [e2,dN] at hb';exact hb'
   .rw [aW e1] at hb;rw [aW e2] at hb';exact hs.2 p q hp hq hpq b hb hb'⟩,λb hb ⟨k,hk,hb'⟩=>by
  by_cases e:k=j
  .rw [e,dN] at hb';exact hb'
  .rw [aW e] at hb';exact hs.2 j k hj hk (Ne.symm e) b hb hb'⟩) λb hb=>by
   rcases hb with hb | ⟨k,hk,hb⟩
   .exact ⟨j,hj,hb⟩
   .by_cases e:k=j
    .rw [e,dN] at hb;exact hb.elim
    .rw [aW e] at hb;exact ⟨k,hk,hb⟩
theorem Hp.fin {c:Ch} (H:Hp S w0 w (c::L)) (i:Nat) {j:Nat} (hi:L[i]?=some (cF N (ins f j cE))) (hj:j<N):Hp S w0 w (L.set i (cF N (ins f j c))):=by
 have hne:=(List.pairwise_cons.1 H.apart).1 _ (List.mem_of_getElem? hi);refine H.join i hi (λhd hf=>⟨λk hk=>?_,λp q hp hq hpq b hb hb'=>?_⟩) λb ⟨k,hk,hb⟩=>?_
 .by_cases e:k=j
  .rw [e,dN];exact hd
  .have:=hf.1 k hk;rw [aW e] at this ⊢;exact this
 .by_cases e1:p=j
  .rw [e1,dN] at hb;have e2:q≠j:=λe=>hpq (e1.trans e.symm);exact hne b hb ⟨q,hq,by rw [aW e2] at hb' ⊢;exact hb'⟩
  .rw [aW e1] at hb
   by_cases e2:q=j
   .rw [e2,dN] at hb';exact hne b hb' ⟨p,hp,by rw [aW e1];exact hb⟩
   .rw [aW e2] at hb';exact hf.2 p q hp hq hpq b (by rw [aW e1];exact hb) (by rw [aW e2];exact hb')
 .by_cases e:k=j
  .rw [e,dN] at hb;exact .inl hb
  .rw [aW e] at hb;exact .inr ⟨k,hk,by rw [aW e];exact hb⟩
end
end Go.Eng
namespace Go.Eng
open Go.RowKit
structure EQI (P:Program) (t:TypeId):Prop where
 fs:∃ f1 f2 f3:Field,P.underlying t=some (.struct #[f1,f2,f3])/\(f1.name == "_")=false/\(f2.name == "_")=false/\(f3.name == "_")=false/\f1.offset=0/\f2.offset=1/\f3.offset=2/\P.underlying f1.type=some .string/\P.underlying f2.type=some (.int .i64)/\P.underlying f3.type=some .string
 st:P.stoodInHeld t=false
 gd:P.eqGuardType P.depth t=false
theorem Mm {P:Program} {t:TypeId} (h:EQI P t) (d:Nat) (a a' s s':ByteArray) (b b':Int) (w:World):(Op.equalIn (d+2) t (.agg #[.string a,.int .i64 b,.string s]) (.agg #[.string a',.int .i64 b',.string s'])).run P w= .ok (decide (a=a'/\b=b'/\s=s')) w:=by
 obtain ⟨⟨f1,f2,f3,hT,h1,h2,h3,o1,o2,o3,u1,u2,u3⟩,hst,_⟩:=h;have e1:¬ f1.name= "_" :=by simpa using h1
 have e2:¬ f2.name= "_" :=by simpa using h2
 have e3:¬ f3.name= "_" :=by simpa using h3
 rw [Op.equalIn];simp [run_underlying hT,hst,part,isAgg,run_underlying u1,run_underlying u2,run_underlying u3,o1,o2,o3,e1,e2,e3,iH u1,iH u3,mR u2]
 by_cases ha:a=a' <;> by_cases hs:b=b' <;> by_cases hb:s=s' <;> simp [ha,hs,hb]
structure EQO (P:Program) (t:TypeId):Prop where
 fs:∃ f1 f2:Field,P.underlying t=some (.struct #[f1,f2])/\(f1.name == "_")=false/\(f2.name == "_")=false/\f1.offset=0/\f2.offset=1/\P.underlying f1.type=some .string/\P.underlying f2.type=some (.int .i64)
 st:P.stoodInHeld t=false
 gd:P.eqGuardType P.depth t=false
theorem LK {P:Program} {t:TypeId} (h:EQO P t) (d:Nat) (a a':ByteArray) (b b':Int) (w:World):(Op.equalIn (d+2) t (.agg #[.string a,.int .i64 b]) (.agg #[.string a',.int .i64 b'])).run P w= .ok (decide (a=a'/\b=b')) w:=by
 obtain ⟨⟨f1,f2,hT,h1,h2,o1,o2,u1,u2⟩,hst,_⟩:=h;have e1:¬ f1.name= "_" :=by simpa using h1
 have e2:¬ f2.name= "_" :=by simpa using h2
 rw [Op.equalIn];simp [run_underlying hT,hst,part,isAgg,run_underlying u1,run_underlying u2,o1,o2,e1,e2,iH u1,mR u2]
 by_cases ha:a=a' <;> by_cases hs:b=b' <;> simp [ha,hs]
section
variable {P:Program} {n:Nat} {σ:Nat->Value} {w:World} {ty t t':TypeId} {x y:Operand}
theorem LU {a s:ByteArray} {b:Int} (h:EQI P t) (hx:ev n σ x= .agg #[.string a,.int .i64 b,.string s]) (hy:ev n σ y= .agg #[.string a,.int .i64 b,.string s]):Ex P (ev n σ) w (.binOp .neq t x y t') ty (.bool false):=by
 intro _ _ _ _;have h1:=Mm h 9998 a a s s b b w;have h2:=h.gd;simp [execOp,hx,hy,eqGuard,binOp,Op.equal,Op.maxDepth,h1,h2]
theorem Ky {a:ByteArray} {b:Int} (h:EQO P t) (hx:ev n σ x= .agg #[.string a,.int .i64 b]) (hy:ev n σ y= .agg #[.string a,.int .i64 b]):Ex P (ev n σ) w (.binOp .neq t x y t') ty (.bool false):=by
 intro _ _ _ _;have h1:=LK h 9998 a a b b w;have h2:=h.gd;simp [execOp,hx,hy,eqGuard,binOp,Op.equal,Op.maxDepth,h1,h2]
end
section
variable {α:Type} {E:En α} {h:Array Obj} {a:Option Addr} {m c k i:Nat} {xs ys:List α} {u v:α}
theorem Srm.pre (hs:Srm E h a m c (xs++ys)) (hk:xs.length=k):Srm E h a k c xs:=by
 have hl:=hs.len;rw [List.length_append] at hl;have:=Src.take E.len (j:=k) hs (by omega) (by rw [List.length_append];omega);rw [List.take_append_of_le_length (by omega),List.take_of_length_le (by omega)] at this;exact this
theorem Es [Inhabited α]:el (xs++u::ys) xs.length=u:=by
 rw [aF (by rw [List.length_append,List.length_cons];omega),List.getElem_append_right (Nat.le_refl _)];simp
theorem Srm.mk0 [Inhabited α] (hs:Srm E h a m c (xs++u::ys)):Cells h (ab a) (ao a+xs.length * E.k) (E.enc u):=by
 have hl:=hs.len;rw [List.length_append,List.length_cons] at hl;have:=hs.cell (i:=xs.length) (by omega);rw [Es] at this;exact this
theorem Srm.mk1 [Inhabited α] (hs:Srm E h a m c (xs++u::v::ys)):Cells h (ab a) (ao a+(xs.length+1) * E.k) (E.enc v):=by
 have e:xs++u::v::ys=(xs++[u])++v::ys:=by rw [List.append_assoc];rfl
 rw [e] at hs;have:=hs.mk0;rw [List.length_append] at this;exact this
theorem Srm.cellA [Inhabited α] (hs:Srm E h a m c (xs++ys)) (hi:i<xs.length):Cells h (ab a) (ao a+i * E.k) (E.enc (el xs i)):=(hs.pre rfl).cell hi
theorem EapQ0 {P:Program} {n:Nat} {σ:Nat->Value} {w w0:World} {S:Nat->Prop} {L:List Ch} {K:Value->World->Prop} {x y:Operand} {ty t:TypeId} {e k0 bb mx:Nat} {z yv:Value} (H:Hp S w0 w L) (j:Nat) (hS:SL P t e k0 bb z) (hs:ev n σ x= .slice a 0 c) (hi:L[j]?=some (cQ e E a 0 c [])) (hx:ev n σ y=yv) (hsrc:Src w.heap yv mx E.k (flat E.enc ys)) (hb:mx * bb<=140737488355328) (hbb:Nat.blt 0 bb=true) (hk:k0=E.k)
  (k:∀ a' c' w',Hp S w0 w' (L.set j (cQ e E a' mx c' ys))->K (.slice a' mx c') w'):fU P (ev n σ) w (.call { callee:=.builtin .append,args:=#[x,y],argTypes:=#[t,t] }) ty K:=
 EapQ H j hS hs hi hx hsrc (by rw [Nat.zero_add];exact hb) hbb hk λa' c' w' h=>by
  rw [Nat.zero_add] at h ⊢;exact k a' c' w' h
theorem Srm.cast {m':Nat} (hs:Srm E h a m c xs) (e:m=m'):Srm E h a m' c xs:=e▸hs
end
end Go.Eng
