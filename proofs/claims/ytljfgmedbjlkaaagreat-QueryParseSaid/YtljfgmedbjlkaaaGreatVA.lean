/- Places in arrays that are values, cuts of texts, other ways to leave, a scope with three labels. -/
import Derived.Test.YtljfgmedbjlkaaaGreatSli
import Derived.ScopeJumps
import Derived.Test.YtljfgmedbjlkaaaGreatV8
namespace Go.Eng
open Go.RowKit
variable {rr:Option Nat}
section
variable {P:Program} {Q:Exit→Act→World→Prop} {n:Nat} {σ:Nat→Value} {ds:List Deferred} {w:World}
theorem gotoS {l:Nat} {a:Act} (h:Q (.goto l) a w):(Code.goto l).wq rr P Q a w:=wpIn_goto h
/-- in a scope: what stands behind, under a name; a goto goes by too -/
theorem seqG {x y:Code} {a:Act} (h:∀ Q':Exit→Act→World→Prop,(∀ a w,y.wq rr P Q a w→Q' .normal a w)→(∀ a w,Q .ret a w→Q' .ret a w)→(∀ id a w,Q (.exit id) a w→Q' (.exit id) a w)→(∀ id a w,Q (.goto id) a w→Q' (.goto id) a w)→x.wq rr P Q' a w):(Code.seq x y).wq rr P Q a w:=
 wpIn_seq (h _ (fun _ _ h=>h) (fun _ _ h=>h) (fun _ _ _ h=>h) (fun _ _ _ h=>h))
end
end Go.Eng
namespace Go.Eng
open Go.RowKit
variable {rr:Option Nat}
section
variable {P:Program} {n:Nat} {σ:Nat→Value} {w:World} {ty t t':TypeId} {x y z:Operand}
theorem x_sliceSLH {s:ByteArray} {l u:Nat} {k k':IntKind} (hT:P.underlying t=some .string) (hx:ev n σ x= .string s) (hy:ev n σ y= .int k (l:Int)) (hz:ev n σ z= .int k' (u:Int)) (h:l≤u) (h':u≤s.size):Ex P (ev n σ) w (.slice t x (some y) (some z) none) ty (.string (s.extract l u)):=by
 intro _ _ _ _
 simp [execOp,hx,hy,hz,Instr.sliceAt,Instr.slice,run_underlying hT,Instr.sliceBounds,Instr.sliceBound,asIntOf,h,h']
/-- a sum, said otherwise -/
theorem addC {a b:Int} (c:Int) (hx:ev n σ x= .int .i64 a) (hy:ev n σ y= .int .i64 b) (h:a+b=c) (hr:I64 c):Ex P (ev n σ) w (.binOp .add t x y t') ty (.int .i64 c):=by
 subst h
 exact x_add hx hy hr
theorem eff_ex {P:Program} {ρ:Operand→Value} {w:World} {op:Op} {ty:TypeId} {v:Value} {K:Value→World→Prop} (h:Ex P ρ w op ty v) (k:K v w):Eff P ρ w op ty K:=⟨v,w,k,.inl h⟩
/-- a text of an array of texts that is a value -/
theorem x_indexA {len e i:Nat} {xs:List ByteArray} {k:IntKind} (hT:P.underlying t=some (.array len e)) (hZ:SZ P e 1) (hN:NA P e) (hl:len=xs.length) (hx:ev n σ x= .agg (xs.map Value.string).toArray) (hy:ev n σ y= .int k (i:Int)) (h:i<len):Ex P (ev n σ) w (.index t x y) ty (.string (el xs i)):=by
 intro _ _ _ _
 have h1:((xs.map Value.string).toArray)[i]?=some (.string (el xs i)):=by
  rw [List.getElem?_toArray,List.getElem?_map,el_get? (by omega)];rfl
 have h2:=hZ w
 have h3:=hN w
 simp [execOp,hx,hy,Instr.index,asIntOf,run_underlying hT,h,h2,part,h3]
 rw [← List.getElem?_map,← List.getElem?_toArray,h1]
 rfl
theorem leave3 {P:Program} {fn:Func} {R:Ending→World→Prop} {n:Nat} {σ:Nat→Value} {w:World} {t u s:Nat} {v v' v'':Value} (hr:fn.results=#[.tmp t,.tmp u,.tmp s]) (ht:ev n σ (.tmp t)=v) (hu:ev n σ (.tmp u)=v') (hs:ev n σ (.tmp s)=v'')
  (h:R (.returned (.tuple #[v,v',v''])) w):bodyPost P fn R .ret (F n σ []) w:=by
 refine ⟨rfl,_,?_,h⟩
 have h1:(F n σ []).tmps.getD t undef=v:=by rw [← ht,← F_eval n σ []];rfl
 have h2:(F n σ []).tmps.getD u undef=v':=by rw [← hu,← F_eval n σ []];rfl
 have h3:(F n σ []).tmps.getD s undef=v'':=by rw [← hs,← F_eval n σ []];rfl
 rw [← h1,← h2,← h3]
 simp [results,hr]
theorem leave4 {P:Program} {fn:Func} {R:Ending→World→Prop} {n:Nat} {σ:Nat→Value} {w:World} {t u T b o s r:Nat} {cs:List Value} {v v' v'':Value} (hr:fn.results=#[.tmp t,.cell u T,.tmp s,.tmp r]) (hA:AG P T cs.length) (ht:ev n σ (.tmp t)=v) (hu:ev n σ (.tmp u)= .pointer (some ⟨b,o,none⟩)) (hc:Cells w.heap b o cs) (hs:ev n σ (.tmp s)=v') (hq:ev n σ (.tmp r)=v'')
  (h:R (.returned (.tuple #[v,.agg cs.toArray,v',v''])) w):bodyPost P fn R .ret (F n σ []) w:=by
 refine ⟨rfl,.tuple #[v,.agg cs.toArray,v',v''],?_,h⟩
 have g1:(F n σ []).tmps[t]?.getD undef=v:=by rw [← Array.getD_eq_getD_getElem?,← ht,← F_eval n σ []];rfl
 have h1:(F n σ []).tmps[u]?.getD undef= .pointer (some ⟨b,o,none⟩):=by rw [← Array.getD_eq_getD_getElem?,← hu,← F_eval n σ []];rfl
 have g2:(F n σ []).tmps[s]?.getD undef=v':=by rw [← Array.getD_eq_getD_getElem?,← hs,← F_eval n σ []];rfl
 have g3:(F n σ []).tmps[r]?.getD undef=v'':=by rw [← Array.getD_eq_getD_getElem?,← hq,← F_eval n σ []];rfl
 obtain ⟨h2,h3⟩:=hA w
 have h4:=run_loadCellsFrom (P:=P) hc cs.length 0 #[] (by omega)
 simp only [List.drop_zero,Array.empty_append] at h4
 simp [results,hr,h1,g1,g2,g3,asAddr,loadVar,h2,h3,loadCells,h4]
end
section
variable {P:Program} {Q:Exit→Act→World→Prop} {n:Nat} {ds:List Deferred} {w:World}
/-- a block in a scope: a goto goes by too -/
theorem blockG {id:Nat} {c:Code} {a:Act} (h:∀ Q':Exit→Act→World→Prop,(∀ a w,Q .normal a w→Q' .normal a w)→(∀ a w,Q .ret a w→Q' .ret a w)→(∀ id' a w,(id' == id)=false→Q (.exit id') a w→Q' (.exit id') a w)→(∀ a w,Q .normal a w→Q' (.exit id) a w)→(∀ l a w,Q (.goto l) a w→Q' (.goto l) a w)→c.wq rr P Q' a w):(Code.block id c).wq rr P Q a w:=
 wpIn_block (h _ (fun _ _ h=>h) (fun _ _ h=>h) (fun _ _ _ hne h=>bx hne h) (fun _ _ h=>be h) (fun _ _ _ h=>h))
def jumpT (J:Nat→Act→World→Prop) (Q:Exit→Act→World→Prop):Exit→Act→World→Prop
 | .goto l,a,w=>J l a w
 | e,a,w=>Q e a w
theorem scopeTN {c:Code} {R:Nat→Code} {α:Type} (V:α→List (Nat × Value)) (Inv:Nat→α→World→Prop) (μ:α→Nat) (hf:∀ l,l<3→findLabel c l=some (R l)) {a:Act}
  (first:c.wq rr P (jumpT (fun l a' w'=>l<3∧∃ σ' x',a'=F n σ' ds∧Has σ' (V x')∧Inv l x' w') Q) a w)
  (pass:∀ l,l<3→∀ σ x w,Has σ (V x)→Inv l x w→(R l).wq rr P (jumpT (fun l a' w'=>l<3∧∃ σ' x',a'=F n σ' ds∧Has σ' (V x')∧Inv l x' w'∧μ x'<μ x) Q) (F n σ ds) w):(Code.scope c).wq rr P Q a w:=by
 intro b k cs hro hb hr
 have hg:∀ l,l<3→gotoIn l (.inScope c::k)=some (.code (R l)::.inScope c::k):=fun l hl=>by simp [gotoIn,hf l hl]
 have key:∀ m l σ x w,l<3→μ x=m→Has σ (V x)→Inv l x w→∃ e a' w',Q e a' w'∧ArrivesIn (Machine.fenced P (Fen rr)) P (lone (b.atR (F n σ ds) (.code (R l)::.inScope c::k)) cs w) b k cs e a' w':=by
  intro m
  induction m using Nat.strongRecOn with
  | _ m ih=>
   intro l σ x w hl hm hV hI
   obtain ⟨e,a₁,w₁,hq,harr⟩:=pass l hl σ x w hV hI b (.inScope c::k) cs hro hb hr
   cases e with
   | normal=>exact ⟨.normal,a₁,w₁,hq,StepsIn.trans harr (.one (fenced_calm hb hr rfl) stepR_inScopeE)⟩
   | exit id=>
    have hx:exitTo id (.inScope c::k)=exitTo id k:=by simp [exitTo]
    exact ⟨.exit id,a₁,w₁,hq,fun k' hk=>harr.1 k' (by rw [hx];exact hk),fun hr' hk=>let ⟨k₁,h1,h2⟩:=harr.2 hr' (by rw [hx];exact hk);⟨k₁,h1,h2⟩⟩
   | goto l'=>
    obtain ⟨hl',σ',x',rfl,hV',hI',hlt⟩:=hq
    obtain ⟨e₂,a₂,w₂,hq₂,harr₂⟩:=ih _ (by omega) l' σ' x' w₁ hl' rfl hV' hI'
    exact ⟨e₂,a₂,w₂,hq₂,.of_steps (harr.1 _ (hg l' hl')) harr₂⟩
   | ret=>exact ⟨_,a₁,w₁,hq,harr⟩
   | panic ch=>exact ⟨_,a₁,w₁,hq,harr⟩
   | outgrown=>exact ⟨_,a₁,w₁,hq,harr⟩
 have key0:∃ e a' w',Q e a' w'∧ArrivesIn (Machine.fenced P (Fen rr)) P (lone (b.atR a (.code c::.inScope c::k)) cs w) b k cs e a' w':=by
  obtain ⟨e,a₁,w₁,hq,harr⟩:=first b (.inScope c::k) cs hro hb hr
  cases e with
  | normal=>exact ⟨.normal,a₁,w₁,hq,StepsIn.trans harr (.one (fenced_calm hb hr rfl) stepR_inScopeE)⟩
  | exit id=>
   have hx:exitTo id (.inScope c::k)=exitTo id k:=by simp [exitTo]
   exact ⟨.exit id,a₁,w₁,hq,fun k' hk=>harr.1 k' (by rw [hx];exact hk),fun hr' hk=>let ⟨k₁,h1,h2⟩:=harr.2 hr' (by rw [hx];exact hk);⟨k₁,h1,h2⟩⟩
  | goto l'=>
   obtain ⟨hl',σ',x',rfl,hV',hI'⟩:=hq
   obtain ⟨e₂,a₂,w₂,hq₂,harr₂⟩:=key _ l' σ' x' w₁ hl' rfl hV' hI'
   exact ⟨e₂,a₂,w₂,hq₂,.of_steps (harr.1 _ (hg l' hl')) harr₂⟩
  | ret=>exact ⟨_,a₁,w₁,hq,harr⟩
  | panic ch=>exact ⟨_,a₁,w₁,hq,harr⟩
  | outgrown=>exact ⟨_,a₁,w₁,hq,harr⟩
 obtain ⟨e,a',w',hq,harr⟩:=key0
 exact ⟨e,a',w',hq,.of_steps (.one (fenced_calm hb hr rfl) stepR_scopeE) harr⟩
/-- a scope with three labels behind two parts; each part jumps at its end -/
theorem scopeT {x y R0 R1 R2:Code} {α:Type} (V:α→List (Nat × Value)) (Inv:Nat→α→World→Prop) (μ:α→Nat) {a:Act}
  (h0:findLabel (.seq x (.seq y (.seq (.label 0) R0))) 0=some (.seq .skip R0)) (h1:findLabel (.seq x (.seq y (.seq (.label 0) R0))) 1=some (.seq .skip R1)) (h2:findLabel (.seq x (.seq y (.seq (.label 0) R0))) 2=some (.seq .skip R2))
  (pre:∀ (Z:Code) (Q':Exit→Act→World→Prop),(∀ σ' x' w',Has σ' (V x')→Inv 0 x' w'→Z.wq rr P Q' (F n σ' ds) w')→(∀ a w,Q .ret a w→Q' .ret a w)→(∀ id a w,Q (.exit id) a w→Q' (.exit id) a w)→(Code.seq x (.seq y Z)).wq rr P Q' a w)
  (p0:∀ τ x w,Inv 0 x w→∀ Q':Exit→Act→World→Prop,(∀ l σ' x' w',l<3→Has σ' (V x')→Inv l x' w'→μ x'<μ x→Q' (.goto l) (F n σ' ds) w')→(∀ a w,Q .normal a w→Q' .normal a w)→(∀ a w,Q .ret a w→Q' .ret a w)→(∀ id a w,Q (.exit id) a w→Q' (.exit id) a w)→R0.wq rr P Q' (F n (ups (V x) τ) ds) w)
  (p1:∀ τ x w,Inv 1 x w→∀ Q':Exit→Act→World→Prop,(∀ l σ' x' w',l<3→Has σ' (V x')→Inv l x' w'→μ x'<μ x→Q' (.goto l) (F n σ' ds) w')→(∀ a w,Q .normal a w→Q' .normal a w)→(∀ a w,Q .ret a w→Q' .ret a w)→(∀ id a w,Q (.exit id) a w→Q' (.exit id) a w)→R1.wq rr P Q' (F n (ups (V x) τ) ds) w)
  (p2:∀ τ x w,Inv 2 x w→∀ Q':Exit→Act→World→Prop,(∀ l σ' x' w',l<3→Has σ' (V x')→Inv l x' w'→μ x'<μ x→Q' (.goto l) (F n σ' ds) w')→(∀ a w,Q .normal a w→Q' .normal a w)→(∀ a w,Q .ret a w→Q' .ret a w)→(∀ id a w,Q (.exit id) a w→Q' (.exit id) a w)→R2.wq rr P Q' (F n (ups (V x) τ) ds) w) :
  (Code.scope (.seq x (.seq y (.seq (.label 0) R0)))).wq rr P Q a w:=by
 let RR:Nat→Code:=fun l=>match l with | 0=>.seq .skip R0 | 1=>.seq .skip R1 | _=>.seq .skip R2
 refine scopeTN (n:=n) (ds:=ds) (R:=RR) V Inv μ ?_ ?_ ?_
 ·intro l hl
  match l,hl with
  | 0,_=>exact h0
  | 1,_=>exact h1
  | 2,_=>exact h2
 ·refine pre _ _ ?_ (fun _ _ h=>h) (fun _ _ _ h=>h)
  intro σ' x' w' hV hI
  refine wpIn_seq (wpIn_label ?_)
  have h3:=p0 σ' x' w' hI (jumpT (fun l a' w'=>l<3∧∃ σ' x',a'=F n σ' ds∧Has σ' (V x')∧Inv l x' w') Q) (fun l σ'' x'' _ hl h1 h2 _=>⟨hl,σ'',x'',rfl,h1,h2⟩) (fun _ _ h=>h) (fun _ _ h=>h) (fun _ _ _ h=>h)
  rw [ups_self hV] at h3
  exact h3
 ·intro l hl σ x w hV hI
  match l,hl with
  | 0,_=>
   have h:=p0 σ x w hI (jumpT (fun l a' w'=>l<3∧∃ σ' x',a'=F n σ' ds∧Has σ' (V x')∧Inv l x' w'∧μ x'<μ x) Q) (fun l σ' x' w' hl h1 h2 h3=>⟨hl,σ',x',rfl,h1,h2,h3⟩) (fun _ _ h=>h) (fun _ _ h=>h) (fun _ _ _ h=>h)
   rw [ups_self hV] at h
   exact wpIn_seq (wpIn_skip h)
  | 1,_=>
   have h:=p1 σ x w hI (jumpT (fun l a' w'=>l<3∧∃ σ' x',a'=F n σ' ds∧Has σ' (V x')∧Inv l x' w'∧μ x'<μ x) Q) (fun l σ' x' w' hl h1 h2 h3=>⟨hl,σ',x',rfl,h1,h2,h3⟩) (fun _ _ h=>h) (fun _ _ h=>h) (fun _ _ _ h=>h)
   rw [ups_self hV] at h
   exact wpIn_seq (wpIn_skip h)
  | 2,_=>
   have h:=p2 σ x w hI (jumpT (fun l a' w'=>l<3∧∃ σ' x',a'=F n σ' ds∧Has σ' (V x')∧Inv l x' w'∧μ x'<μ x) Q) (fun l σ' x' w' hl h1 h2 h3=>⟨hl,σ',x',rfl,h1,h2,h3⟩) (fun _ _ h=>h) (fun _ _ h=>h) (fun _ _ _ h=>h)
   rw [ups_self hV] at h
   exact wpIn_seq (wpIn_skip h)
end
end Go.Eng
