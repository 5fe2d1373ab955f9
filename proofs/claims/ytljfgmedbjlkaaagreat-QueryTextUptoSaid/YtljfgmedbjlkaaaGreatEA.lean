/- The element at a place, whatever the place. -/
import Derived.WalkKit
import Derived.WalkSpells
import Derived.WalkLawsBesides
import Derived.Deep.RegionHeld3
import Derived.OrdersHeld
import Derived.OrdersIn
import Derived.RangeFuncLeaves
import Derived.TacticsIn
namespace Go.Eng
def el {α:Type} [Inhabited α] (xs:List α) (i:Nat):α:=xs.getD i default
theorem aF {α:Type} [Inhabited α] {xs:List α} {i:Nat} (h:i<xs.length):el xs i=xs[i]:=by simp [el,List.getD_eq_getElem?_getD,h]
theorem el_get? {α:Type} [Inhabited α] {xs:List α} {i:Nat} (h:i<xs.length):xs[i]?=some (el xs i):=by rw [aF h];exact List.getElem?_eq_getElem h
end Go.Eng
namespace Go.Eng
open Go.RowKit
variable {rr:Option Nat}
def zu:Option Nat->Fence
 | none=>Fence.wide
 | some l=>Fence.wide.inRound l
theorem kw (r:Option Nat) (f:FuncId):(zu r).fn f:=by cases r <;> trivial
theorem jv (r:Option Nat):(zu r).depth.isSome=true->1<=0:=by cases r <;> intro h <;> cases h
theorem j9 {P:Program} {f:FuncId} {args:Array Value} {w:World} {R:Ending->World->Prop} (h:Calls P f args w R):CallsIn (zu rr) 0 P f args w R:=by
 have h0:CallsIn Fence.wide 0 P f args w R:=callsIn_wide.2 h
 cases rr with
 | none=>exact h0
 | some l=>exact h0
theorem zX {P:Program} {f:String} {args:Array Value} {w:World} {R:Value->World->Prop} (h:Rows P f args w R):RowsIn (zu rr) 0 P f args w R:=by
 have h0:RowsIn Fence.wide 0 P f args w R:=λc cs _=>let ⟨v,w',r,s⟩:=h c cs;⟨v,w',r,stepsIn_wide.2 s⟩
 cases rr with
 | none=>exact h0
 | some l=>exact h0
abbrev _root_.Go.Code.wq (rr:Option Nat) (P:Program) (c:Code) (Q:Exit->Act->World->Prop) (a:Act) (w:World):Prop:=c.wpIn (zu rr) 0 P Q a w
theorem Kj {P:Program} {c:Code} {Q:Exit->Act->World->Prop} {a:Act} {w:World}:c.wq none P Q a w↔c.wp P Q a w:=wpIn_wide (n:=0)
theorem nz {P:Program} {ρ:Operand->Value} {o:Oper} {w w':World} {x:Next} (h:(execOp ρ o).run P w= .ok x w') (hx:∀ d,x≠.defer d):(o.semAt (zu rr).round ρ).run P w= .ok x w':=by
 cases rr with
 | none=>exact h
 | some l=>
  obtain ⟨dst,op,ty,pos,af,g⟩:=o
  cases op <;> try exact h
  rename_i c
  exfalso
  simp only [execOp,Sem.run_bind] at h
  cases hr:(resolve ρ c ty).run P w with
  | ok d w1=>rw [hr] at h;simp only [Result.andThen_ok,Sem.run_pure] at h;cases h;exact hx _ rfl
  | halt e w1=>rw [hr] at h;simp [Result.andThen] at h
def mk (n:Nat) (σ:Nat->Value):Array Value:=Array.ofFn (λi:Fin n=>σ i.val)
def gT (σ:Nat->Value) (d:Nat) (v:Value):Nat->Value:=λt=>bif Nat.beq t d then v else σ t
def F (n:Nat) (σ:Nat->Value) (ds:List Deferred):Act:={ tmps:=mk n σ,defers:=ds }
def ev (n:Nat) (σ:Nat->Value):Operand->Value
 | .tmp t=>bif Nat.blt t n then σ t else undef
 | .const v=>v
 | .global g=>.pointer (some ⟨g,0,none⟩)
 | .func f=>.func (.func f) #[] #[]
theorem iL (n:Nat) (σ:Nat->Value) (t:Nat):(mk n σ)[t]?=if t<n then some (σ t) else none:=by
 unfold mk;rw [Array.getElem?_ofFn];split <;> simp_all
theorem lI (n:Nat) (σ:Nat->Value) (t:Nat):(mk n σ).getD t undef=bif Nat.blt t n then σ t else undef:=by
 rw [Array.getD_eq_getD_getElem?,iL]
 by_cases h:t<n
 .have:Nat.blt t n=true:=by simpa [Nat.blt_eq] using h
  simp [h,this]
 .have:Nat.blt t n=false:=by cases hb:Nat.blt t n;rfl;rw [Nat.blt_eq] at hb;exact absurd hb h
  simp [h,this]
theorem aP (n:Nat) (σ:Nat->Value) (ds:List Deferred):(F n σ ds).eval=ev n σ:=by
 funext x
 cases x with
 | tmp t=>exact lI n σ t
 | const v=>rfl
 | global g=>rfl
 | func f=>rfl
theorem BI (n:Nat) (σ:Nat->Value) (d:Nat) (v:Value):(mk n σ).setIfInBounds d v=mk n (gT σ d v):=by
 apply Array.ext_getElem?;intro t;rw [Array.getElem?_setIfInBounds,iL,iL];have hs:(mk n σ).size=n:=by simp [mk]
 by_cases h:d=t
 .subst h;have:Nat.beq d d=true:=by simp
  simp only [if_true,hs,gT,this,cond_true]
 .have:Nat.beq t d=false:=by cases hb:Nat.beq t d;rfl;exact absurd (Nat.eq_of_beq_eq_true hb).symm h
  simp only [h,if_false,gT,this,cond_false]
theorem fT (n:Nat) (σ:Nat->Value) (ds:List Deferred) (d:Nat) (v:Value):(F n σ ds).put (some d) v=F n (gT σ d v) ds:=by
 simp only [F,Act.put,BI]
theorem tq (n:Nat) (σ:Nat->Value) (ds:List Deferred) (v:Value):(F n σ ds).put none v=F n σ ds:=rfl
theorem FY {σ:Nat->Value} {d:Nat} {v:Value} (h:σ d=v):gT σ d v=σ:=by
 funext t;unfold gT;cases hb:Nat.beq t d
 .rfl
 .have:=Nat.eq_of_beq_eq_true hb;subst this;simp [h]
def tK (args:List Value):Nat->Value:=λt=>args.getD t undef
theorem enter {P:Program} {f:FuncId} {fn:Func} {c:Code} {args:List Value} {w:World} {R:Ending->World->Prop}
  (hf:P.funcs[f]?=some fn) (hb:fn.body=some c) (n:Nat) (hn:fn.ntmps=n) (hl0:Nat.ble args.length n=true)
  (h:c.wq none P (bodyPost P fn R) (F n (tK args) []) w):Calls P f args.toArray w R:=by
 have hl:=Nat.le_of_ble_eq_true hl0
 replace h:=Kj.1 h
 refine calls_of_wp hf hb ?_
 have:(args.toArray++Array.replicate (fn.ntmps-args.toArray.size) undef)=mk n (tK args):=by
  subst hn;apply Array.ext_getElem?;intro t;rw [iL,Array.getElem?_append];simp only [List.size_toArray,List.getElem?_toArray,tK,List.getD_eq_getElem?_getD]
  by_cases h1:t<args.length
  .simp [h1,Nat.lt_of_lt_of_le h1 hl]
  .simp only [h1,if_false,Array.getElem?_replicate]
   by_cases h2:t<fn.ntmps
   .have:t-args.length<fn.ntmps-args.length:=by omega
    simp [h2,this,List.getElem?_eq_none (Nat.le_of_not_lt h1)]
   .have:¬ t-args.length<fn.ntmps-args.length:=by omega
    simp [h2,this]
 rw [this];exact h
theorem leave1 {P:Program} {fn:Func} {R:Ending->World->Prop} {n:Nat} {σ:Nat->Value} {w:World} {t:Nat} {v:Value} (hr:fn.results=#[.tmp t]) (ht:ev n σ (.tmp t)=v)
  (h:R (.returned v) w):bodyPost P fn R .ret (F n σ []) w:=by
 refine ⟨rfl,v,?_,h⟩;rw [results_tmp hr];have:(F n σ []).tmps.getD t undef=v:=by rw [← ht,← aP n σ []];rfl
 rw [this]
theorem leave2 {P:Program} {fn:Func} {R:Ending->World->Prop} {n:Nat} {σ:Nat->Value} {w:World} {t u:Nat} {v v':Value} (hr:fn.results=#[.tmp t,.tmp u]) (ht:ev n σ (.tmp t)=v) (hu:ev n σ (.tmp u)=v')
  (h:R (.returned (.tuple #[v,v'])) w):bodyPost P fn R .ret (F n σ []) w:=by
 refine ⟨rfl,_,?_,h⟩;rw [results_tmp2 hr];have h1:(F n σ []).tmps.getD t undef=v:=by rw [← ht,← aP n σ []];rfl
 have h2:(F n σ []).tmps.getD u undef=v':=by rw [← hu,← aP n σ []];rfl
 rw [h1,h2]
theorem leave0 {P:Program} {fn:Func} {R:Ending->World->Prop} {n:Nat} {σ:Nat->Value} {w:World} (hr:fn.results=#[])
  (h:R (.returned (.tuple #[])) w):bodyPost P fn R .ret (F n σ []) w:=⟨rfl,_,results_none hr _ _ _,h⟩
theorem leave0' {P:Program} {fn:Func} {R:Ending->World->Prop} {n:Nat} {σ:Nat->Value} {w:World} (hr:fn.results=#[])
  (h:R (.returned (.tuple #[])) w):bodyPost P fn R .normal (F n σ []) w:=⟨rfl,_,results_none hr _ _ _,h⟩
def Ex (P:Program) (ρ:Operand->Value) (w:World) (op:Op) (ty:TypeId) (v:Value):Prop:=
 ∀ dst pos af g,(execOp ρ ⟨dst,op,ty,pos,af,g⟩).run P w= .ok (.value v) w
def fU (P:Program) (ρ:Operand->Value) (w:World) (op:Op) (ty:TypeId) (K:Value->World->Prop):Prop:=
 ∃ v w',K v w'/\((∀ dst pos af g,(execOp ρ ⟨dst,op,ty,pos,af,g⟩).run P w= .ok (.value v) w')\/(v=undef/\∀ dst pos af g,(execOp ρ ⟨dst,op,ty,pos,af,g⟩).run P w= .ok .skip w'))
def iP (P:Program) (ρ:Operand->Value) (w:World) (op:Op) (ty:TypeId) (f:FuncId) (args:Array Value):Prop:=
 ∀ dst pos af g,(execOp ρ ⟨dst,op,ty,pos,af,g⟩).run P w= .ok (.enter f args) w
def WL (rr:Option Nat) (P:Program) (ops:Array Oper) (Q:Exit->Act->World->Prop) (l:List Oper) (a:Act) (w:World):Prop:=wpListIn (zu rr) 0 P ops Q l a w
theorem WL.mk' {P:Program} {ops:Array Oper} {Q:Exit->Act->World->Prop} {l:List Oper} {a:Act} {w:World} (h:wpListIn (zu rr) 0 P ops Q l a w):WL rr P ops Q l a w:=h
theorem WL.out {P:Program} {ops:Array Oper} {Q:Exit->Act->World->Prop} {l:List Oper} {a:Act} {w:World} (h:WL rr P ops Q l a w):wpListIn (zu rr) 0 P ops Q l a w:=h
theorem WL.mono {P:Program} {ops:Array Oper} {Q:Exit->Act->World->Prop} {o:Oper} {rest:List Oper} {a:Act} {w:World} (hg:o.guard=none) (h:o.wpIn (zu rr) 0 P a w (WL rr P ops Q rest) Q):WL rr P ops Q (o::rest) a w:=by
 refine WL.mk' ?_;unfold wpListIn;simp only [Region.wanted,hg,if_true];exact h
theorem WL.skip {P:Program} {ops:Array Oper} {Q:Exit->Act->World->Prop} {o:Oper} {rest:List Oper} {a:Act} {w:World} (hw:Region.wanted o (yielded ops a.tmps)=false) (h:WL rr P ops Q rest (a.put o.dst undef) w):WL rr P ops Q (o::rest) a w:=by
 refine WL.mk' ?_;unfold wpListIn;rw [if_neg (by rw [hw];exact Bool.false_ne_true)];exact ⟨λf _=>kw rr f,h.out⟩
theorem WL.guard {P:Program} {ops:Array Oper} {Q:Exit->Act->World->Prop} {d:Option Tmp} {op:Op} {ty:TypeId} {pos:String} {af:Array Edge} {g:Option (Nat × Bool)} {rest:List Oper} {a:Act} {w:World} (hw:Region.wanted ⟨d,op,ty,pos,af,g⟩ (yielded ops a.tmps)=true) (h:WL rr P ops Q (⟨d,op,ty,pos,af,none⟩::rest) a w):WL rr P ops Q (⟨d,op,ty,pos,af,g⟩::rest) a w:=by
 have h1:=h.out;refine WL.mk' ?_;unfold wpListIn at h1 ⊢;rw [if_pos hw];simp only [Region.wanted,if_true] at h1;exact h1
attribute [irreducible] WL
section
variable {P:Program} {ops:Array Oper} {Q:Exit->Act->World->Prop} {rest:List Oper} {n:Nat} {σ:Nat->Value} {ds:List Deferred} {w:World} {op:Op} {ty:TypeId} {pos:String} {af:Array Edge} {d:Nat} {v:Value}
theorem IU (h:Ex P (ev n σ) w op ty v) (k:WL rr P ops Q rest (F n (gT σ d v) ds) w):WL rr P ops Q (⟨some d,op,ty,pos,af,none⟩::rest) (F n σ ds) w:=by
 refine WL.mono rfl ⟨λf _=>kw rr f,?_⟩;rw [aP,nz (h _ _ _ _) (by intro d e;cases e)];simp only [Oper.uponIn,fT];exact k
theorem st_if {p:Prop} [Decidable p] (h:Ex P (ev n σ) w op ty (.bool (decide p))) (k1:p->WL rr P ops Q rest (F n (gT σ d (.bool true)) ds) w) (k2:¬ p->WL rr P ops Q rest (F n (gT σ d (.bool false)) ds) w) :
  WL rr P ops Q (⟨some d,op,ty,pos,af,none⟩::rest) (F n σ ds) w:=by
 by_cases hp:p
 .exact IU (by rwa [decide_eq_true hp] at h) (k1 hp)
 .exact IU (by rwa [decide_eq_false hp] at h) (k2 hp)
theorem st_e (h:fU P (ev n σ) w op ty (λv w'=>WL rr P ops Q rest (F n (gT σ d v) ds) w')):WL rr P ops Q (⟨some d,op,ty,pos,af,none⟩::rest) (F n σ ds) w:=by
 obtain ⟨v,w',k,h⟩:=h;refine WL.mono rfl ⟨λf _=>kw rr f,?_⟩;rw [aP]
 rcases h with h | ⟨rfl,h⟩ <;> rw [nz (h _ _ _ _) (by intro d e;cases e)] <;> simp only [Oper.uponIn,fT] <;> exact k
theorem st_s (h:fU P (ev n σ) w op ty (λ_ w'=>WL rr P ops Q rest (F n σ ds) w')):WL rr P ops Q (⟨none,op,ty,pos,af,none⟩::rest) (F n σ ds) w:=by
 obtain ⟨v,w',k,h⟩:=h;refine WL.mono rfl ⟨λf _=>kw rr f,?_⟩;rw [aP]
 rcases h with h | ⟨rfl,h⟩ <;> rw [nz (h _ _ _ _) (by intro d e;cases e)] <;> simp only [Oper.uponIn,tq] <;> exact k
theorem st_c {f:FuncId} {args:Array Value} {R:Ending->World->Prop} (he:iP P (ev n σ) w op ty f args) (hc:Calls P f args w R)
  (k:∀ e w',R e w'->∃ v,e= .returned v/\WL rr P ops Q rest (F n (gT σ d v) ds) w'):WL rr P ops Q (⟨some d,op,ty,pos,af,none⟩::rest) (F n σ ds) w:=by
 refine WL.mono rfl ⟨λf _=>kw rr f,?_⟩;rw [aP,nz (he _ _ _ _) (by intro d e;cases e)];simp only [Oper.uponIn];refine ⟨jv rr,j9 (hc.mono λe w' hR=>?_)⟩;obtain ⟨v,rfl,hk⟩:=k e w' hR;simp only [fT];exact hk
theorem dX {j t:Nat} {b b':Bool} {dst:Option Tmp} (hj:(ops[j]?).bind (·.dst)=some t) (ht:ev n σ (.tmp t)= .bool b') (hlt:t<n) :
  Region.wanted ⟨dst,op,ty,pos,af,some (j,b)⟩ (yielded ops (F n σ ds).tmps)=(b' == b):=by
 have h1:Nat.blt t n=true:=by rw [Nat.blt_eq];exact hlt
 simp only [ev,h1,cond_true] at ht;simp only [Region.wanted,yielded,hj,F,Option.bind_some,iL,if_pos hlt,ht];cases b <;> cases b' <;> rfl
theorem nS {j t:Nat} {b:Bool} {dst:Option Tmp} (hj:(ops[j]?).bind (·.dst)=some t) (ht:ev n σ (.tmp t)=undef) (hlt:t<n) :
  Region.wanted ⟨dst,op,ty,pos,af,some (j,b)⟩ (yielded ops (F n σ ds).tmps)=false:=by
 have h1:Nat.blt t n=true:=by rw [Nat.blt_eq];exact hlt
 simp only [ev,h1,cond_true] at ht;simp only [Region.wanted,yielded,hj,F,Option.bind_some,iL,if_pos hlt,ht,undef];rfl
theorem Q8 (j t:Nat) {b:Bool} (hj:(ops[j]?).bind (·.dst)=some t) (ht:ev n σ (.tmp t)=undef) (hlt:t<n)
  (h:WL rr P ops Q rest (F n (gT σ d undef) ds) w):WL rr P ops Q (⟨some d,op,ty,pos,af,some (j,b)⟩::rest) (F n σ ds) w:=by
 exact WL.skip (nS hj ht hlt) (by simp only [fT];exact h)
theorem st_gq (j t:Nat) {b:Bool} (hj:(ops[j]?).bind (·.dst)=some t) (ht:ev n σ (.tmp t)= .bool b) (hlt:t<n)
  (h:WL rr P ops Q (⟨some d,op,ty,pos,af,none⟩::rest) (F n σ ds) w):WL rr P ops Q (⟨some d,op,ty,pos,af,some (j,b)⟩::rest) (F n σ ds) w:=by
 exact WL.guard (by rw [dX hj ht hlt];simp) h
theorem Qn (j t:Nat) {b b':Bool} (hj:(ops[j]?).bind (·.dst)=some t) (ht:ev n σ (.tmp t)= .bool b') (hlt:t<n) (hne:(b' == b)=false)
  (h:WL rr P ops Q rest (F n (gT σ d undef) ds) w):WL rr P ops Q (⟨some d,op,ty,pos,af,some (j,b)⟩::rest) (F n σ ds) w:=by
 exact WL.skip (by rw [dX hj ht hlt];exact hne) (by simp only [fT];exact h)
theorem NS (h:Q .normal (F n σ ds) w):WL rr P ops Q [] (F n σ ds) w:=WL.mk' h
theorem region {id:Nat} {l:List Oper} {a:Act} (h:WL rr P l.toArray Q l a w):(Code.region id l.toArray false).wq rr P Q a w:=wpIn_region_lit h.out
end
end Go.Eng
namespace Go.Eng
open Go.RowKit
def NA (P:Program) (t:TypeId):Prop:=∀ w,(isAgg t).run P w= .ok false w
def AG (P:Program) (t:TypeId) (k:Nat):Prop:=∀ w,(isAgg t).run P w= .ok true w/\(sizeOf t).run P w= .ok k w
def FA (P:Program) (s:TypeId) (f off:Nat):Prop:=∀ a w,(Instr.fieldAt s (.pointer (some a)) f).run P w= .ok (.pointer (some (a.add off))) w
structure SL (P:Program) (t e:TypeId) (k by_:Nat) (z:Value):Prop where
 und:P.underlying t=some (.slice e)
 inf:∃ i,P.info? e=some i/\i.size=k/\i.bytes=by_/\i.zero=some z
 zs:z.cells.size=k
 pos:0<k
def ZV (P:Program) (t:TypeId) (z:Value):Prop:=∀ w,(zeroValue t).run P w= .ok z w
def SZ (P:Program) (t:TypeId) (k:Nat):Prop:=∀ w,(sizeOf t).run P w= .ok k w
def CF (P:Program) (f:FuncId):Prop:=∀ args w,(callFunc f args).run P w= .ok (.enter f args) w
def PM (x:Int):Prop:=-9223372036854775808<=x/\x<=9223372036854775807
theorem DE {x:Int} (h:PM x):IntKind.i64.wrap x=x:=by
 have:=IntWalk.i64_in x h;exact this
def Cells (h:Array Obj) (b o:Nat) (cs:List Value):Prop:=
 ∃ c e fr,h[b]?=some (.cells c e fr)/\∀ j (_:j<cs.length),c[o+j]?=some cs[j]
theorem Cells.lt {h:Array Obj} {b o:Nat} {cs:List Value} (hc:Cells h b o cs):b<h.size:=by
 obtain ⟨c,e,fr,hb,_⟩:=hc;exact (Array.getElem?_eq_some_iff.1 hb).1
theorem Cells.cell {w:World} {b o:Nat} {cs:List Value} (hc:Cells w.heap b o cs) (j:Nat) (hj:j<cs.length):w.cell? ⟨b,o+j,none⟩=some cs[j]:=by
 obtain ⟨c,e,fr,hb,h⟩:=hc;simp [World.cell?,hb,h j hj]
theorem Cells.one {w:World} {b o:Nat} {v:Value} (hc:Cells w.heap b o [v]):w.cell? ⟨b,o,none⟩=some v:=hc.cell 0 (by simp)
section
variable {P:Program} {n:Nat} {σ:Nat->Value} {w:World} {ty:TypeId}
theorem ai {x:Operand} {v:Value} (h:ev n σ x=v):Ex P (ev n σ) w (.move x) ty v:=by
 subst h;intro _ _ _ _;simp [execOp]
theorem tN {x:Operand} {v:Value} (h:ev n σ x=v):Ex P (ev n σ) w (.assign x) ty v:=by
 subst h;intro _ _ _ _;simp [execOp]
theorem vY {c a b:Operand} {v:Value} (hc:ev n σ c= .bool true) (h:ev n σ a=v):Ex P (ev n σ) w (.pick c a b) ty v:=by
 subst h;intro _ _ _ _;simp [execOp,hc,asBool]
theorem xw {c a b:Operand} {v:Value} (hc:ev n σ c= .bool false) (h:ev n σ b=v):Ex P (ev n σ) w (.pick c a b) ty v:=by
 subst h;intro _ _ _ _;simp [execOp,hc,asBool]
theorem bF {x:Operand} {b:Bool} {t':TypeId} (h:ev n σ x= .bool b):Ex P (ev n σ) w (.unOp .not t' x) ty (.bool (!b)):=by
 intro _ _ _ _;simp [execOp,h,Op.unary]
section ints
variable {x y:Operand} {a b:Int} {t t':TypeId}
theorem uz (hx:ev n σ x= .int .i64 a) (hy:ev n σ y= .int .i64 b) (hr:PM (a+b)):Ex P (ev n σ) w (.binOp .add t x y t') ty (.int .i64 (a+b)):=by
 intro _ _ _ _;simp [execOp,hx,hy,eqGuard,binOp,Op.intArith,DE hr]
theorem Qt (hx:ev n σ x= .int .i64 a) (hy:ev n σ y= .int .i64 b) (hr:PM (a-b)):Ex P (ev n σ) w (.binOp .sub t x y t') ty (.int .i64 (a-b)):=by
 intro _ _ _ _;simp [execOp,hx,hy,eqGuard,binOp,Op.intArith,DE hr]
theorem Nn {k:IntKind} (hx:ev n σ x= .int k a) (hy:ev n σ y= .int k b):Ex P (ev n σ) w (.binOp .lss t x y t') ty (.bool (decide (a<b))):=by
 intro _ _ _ _;simp [execOp,hx,hy,eqGuard,binOp,Op.intCmp]
theorem MH {k:IntKind} (hx:ev n σ x= .int k a) (hy:ev n σ y= .int k b):Ex P (ev n σ) w (.binOp .leq t x y t') ty (.bool (decide (a<=b))):=by
 intro _ _ _ _;simp [execOp,hx,hy,eqGuard,binOp,Op.intCmp]
theorem Mx {k:IntKind} (hx:ev n σ x= .int k a) (hy:ev n σ y= .int k b):Ex P (ev n σ) w (.binOp .gtr t x y t') ty (.bool (decide (b<a))):=by
 intro _ _ _ _;simp [execOp,hx,hy,eqGuard,binOp,Op.intCmp]
theorem Mr {k:IntKind} (hx:ev n σ x= .int k a) (hy:ev n σ y= .int k b):Ex P (ev n σ) w (.binOp .geq t x y t') ty (.bool (decide (b<=a))):=by
 intro _ _ _ _;simp [execOp,hx,hy,eqGuard,binOp,Op.intCmp]
theorem MX {k:IntKind} (hx:ev n σ x= .int k a) (hy:ev n σ y= .int k b):Ex P (ev n σ) w (.binOp .eql t x y t') ty (.bool (decide (a=b))):=by
 intro _ _ _ _;simp [execOp,hx,hy,eqGuard,binOp,Op.intCmp];rfl
theorem Ie {k:IntKind} (hx:ev n σ x= .int k a) (hy:ev n σ y= .int k b):Ex P (ev n σ) w (.binOp .neq t x y t') ty (.bool (decide (a≠b))):=by
 intro _ _ _ _;simp [execOp,hx,hy,eqGuard,binOp,Op.intCmp,bne];rfl
end ints
section nats
variable {x y:Operand} {a b:Nat} {t t':TypeId}
theorem IY (hx:ev n σ x= .int .i64 a) (hy:ev n σ y= .int .i64 b) (hr:a+b<=9223372036854775807):Ex P (ev n σ) w (.binOp .add t x y t') ty (.int .i64 ((a+b:Nat):Int)):=by
 have h:PM ((a:Int)+(b:Int)):=⟨by omega,by omega⟩;have:=uz (P:=P) (w:=w) (ty:=ty) (t:=t) (t':=t') hx hy h;rwa [← Int.natCast_add] at this
theorem Gl (hx:ev n σ x= .int .i64 a) (hy:ev n σ y= .int .i64 b) (hle:b<=a) (hr:a<=9223372036854775807):Ex P (ev n σ) w (.binOp .sub t x y t') ty (.int .i64 ((a-b:Nat):Int)):=by
 have h:PM ((a:Int)-(b:Int)):=⟨by omega,by omega⟩;have:=Qt (P:=P) (w:=w) (ty:=ty) (t:=t) (t':=t') hx hy h;rwa [← Int.natCast_sub hle] at this
theorem PB {k:IntKind} (hx:ev n σ x= .int k a) (hy:ev n σ y= .int k b):Ex P (ev n σ) w (.binOp .lss t x y t') ty (.bool (decide (a<b))):=by
 have:=Nn (P:=P) (w:=w) (ty:=ty) (t:=t) (t':=t') hx hy
 simpa only [Int.ofNat_lt] using this
theorem Pq {k:IntKind} (hx:ev n σ x= .int k a) (hy:ev n σ y= .int k b):Ex P (ev n σ) w (.binOp .leq t x y t') ty (.bool (decide (a<=b))):=by
 have:=MH (P:=P) (w:=w) (ty:=ty) (t:=t) (t':=t') hx hy
 simpa only [Int.ofNat_le] using this
theorem Au {k:IntKind} (hx:ev n σ x= .int k a) (hy:ev n σ y= .int k b):Ex P (ev n σ) w (.binOp .gtr t x y t') ty (.bool (decide (b<a))):=by
 have:=Mx (P:=P) (w:=w) (ty:=ty) (t:=t) (t':=t') hx hy
 simpa only [Int.ofNat_lt] using this
theorem Ow {k:IntKind} (hx:ev n σ x= .int k a) (hy:ev n σ y= .int k b):Ex P (ev n σ) w (.binOp .geq t x y t') ty (.bool (decide (b<=a))):=by
 have:=Mr (P:=P) (w:=w) (ty:=ty) (t:=t) (t':=t') hx hy
 simpa only [Int.ofNat_le] using this
theorem Oj {k:IntKind} (hx:ev n σ x= .int k a) (hy:ev n σ y= .int k b):Ex P (ev n σ) w (.binOp .eql t x y t') ty (.bool (decide (a=b))):=by
 have:=MX (P:=P) (w:=w) (ty:=ty) (t:=t) (t':=t') hx hy
 simpa only [Int.ofNat_inj] using this
theorem OP {k:IntKind} (hx:ev n σ x= .int k a) (hy:ev n σ y= .int k b):Ex P (ev n σ) w (.binOp .neq t x y t') ty (.bool (decide (a≠b))):=by
 have:=Ie (P:=P) (w:=w) (ty:=ty) (t:=t) (t':=t') hx hy
 simpa only [ne_eq,Int.ofNat_inj] using this
end nats
section others
variable {x y:Operand} {t t':TypeId} {a b:ByteArray}
theorem PI (hx:ev n σ x= .string a) (hy:ev n σ y= .string b):Ex P (ev n σ) w (.binOp .lss t x y t') ty (.bool (decide (Op.bytesLess a.toList b.toList=true))):=by
 intro _ _ _ _;simp [execOp,hx,hy,eqGuard,binOp,Op.stringOp]
theorem Oy (hx:ev n σ x= .string a) (hy:ev n σ y= .string b):Ex P (ev n σ) w (.binOp .gtr t x y t') ty (.bool (decide ((Op.bytesLess a.toList b.toList || a.toList == b.toList)=false))):=by
 intro _ _ _ _;simp [execOp,hx,hy,eqGuard,binOp,Op.stringOp];cases Op.bytesLess a.toList b.toList <;> cases h:(a.toList == b.toList) <;> simp_all
theorem vE (a b:List UInt8):(a == b)=decide (a=b):=by by_cases h:a=b <;> simp [h]
theorem NC (hx:ev n σ x= .string a) (hy:ev n σ y= .string b):Ex P (ev n σ) w (.binOp .eql t x y t') ty (.bool (decide (a.toList=b.toList))):=by
 intro _ _ _ _;simp [execOp,hx,hy,eqGuard,binOp,Op.stringOp,vE]
theorem Nu (hx:ev n σ x= .string a) (hy:ev n σ y= .string b):Ex P (ev n σ) w (.binOp .neq t x y t') ty (.bool (decide (a.toList≠b.toList))):=by
 intro _ _ _ _;simp [execOp,hx,hy,eqGuard,binOp,Op.stringOp,vE]
theorem pI {p q:Bool} (d:Nat) (hT:P.underlying t=some .bool):(Op.equalIn (d+1) t (.bool p) (.bool q)).run P w= .ok (p == q) w:=by simp [Op.equalIn,run_underlying hT]
theorem qD {e:TypeId} {p:Option Addr} {l c:Nat} {ts:Array TypeId} (h0:ts[0]?=some t) (hT:P.underlying t=some (.slice e)) (hx:ev n σ x= .slice p l c):Ex P (ev n σ) w (.call { callee:=.builtin .len,args:=#[x],argTypes:=ts }) ty (.int .i64 (l:Int)):=by
 intro _ _ _ _;simp [execOp,resolve,invoke,builtin,hx,Builtin.len_,h0,run_underlying hT,goInt]
theorem Cu {e:TypeId} {p:Option Addr} {l c:Nat} {ts:Array TypeId} (h0:ts[0]?=some t) (hT:P.underlying t=some (.slice e)) (hx:ev n σ x= .slice p l c):Ex P (ev n σ) w (.call { callee:=.builtin .cap,args:=#[x],argTypes:=ts }) ty (.int .i64 (c:Int)):=by
 intro _ _ _ _;simp [execOp,resolve,invoke,builtin,hx,Builtin.cap_,h0,run_underlying hT,goInt]
theorem GM {ts:Array TypeId} (h0:ts[0]?=some t) (hT:P.underlying t=some .string) (hx:ev n σ x= .string a):Ex P (ev n σ) w (.call { callee:=.builtin .len,args:=#[x],argTypes:=ts }) ty (.int .i64 (a.size:Int)):=by
 intro _ _ _ _;simp [execOp,resolve,invoke,builtin,hx,Builtin.len_,h0,run_underlying hT,goInt]
theorem bn {b o:Nat} (hx:ev n σ x= .pointer (some ⟨b,o,none⟩)):Ex P (ev n σ) w (.nilCheck x) ty (.pointer (some ⟨b,o,none⟩)):=by
 intro _ _ _ _;simp [execOp,hx]
theorem bH (b o m:Nat):(⟨b,o,none⟩:Addr).add m=⟨b,o+m,none⟩:=by unfold Addr.add;split <;> simp_all
theorem DB {b o s f off:Nat} (hF:FA P s f off) (hx:ev n σ x= .pointer (some ⟨b,o,none⟩)):Ex P (ev n σ) w (.fieldAddr s x f) ty (.pointer (some ⟨b,o+off,none⟩)):=by
 intro _ _ _ _;have:=hF ⟨b,o,none⟩ w;rw [bH] at this;simp [execOp,hx,this]
theorem Df {b o len cap i e k bb:Nat} {z:Value} {kk:IntKind} (hS:SL P t e k bb z) (hx:ev n σ x= .slice (some ⟨b,o,none⟩) len cap) (hy:ev n σ y= .int kk (i:Int)) (hi:i<len):Ex P (ev n σ) w (.indexAddr t x y) ty (.pointer (some ⟨b,o+i * k,none⟩)):=by
 intro _ _ _ _;obtain ⟨inf,hi1,hi2,_,_⟩:=hS.inf;have e1:(0:Int)<=(i:Int)/\(i:Int)<(len:Int):=⟨by omega,by omega⟩;simp [execOp,hx,hy,Instr.indexAt,asIntOf,run_underlying hS.und,sizeOf,typeInfo,hi1,hi2,bH,hi]
theorem qE {b o:Nat} {v:Value} (hN:NA P t) (hx:ev n σ x= .pointer (some ⟨b,o,none⟩)) (hc:Cells w.heap b o [v]):Ex P (ev n σ) w (.load t x) ty v:=by
 intro _ _ _ _;have h1:=hN w;have h2:=hc.one;simp [execOp,hx,Instr.loadAt,Instr.sureAddr,loadVar,h1,load,Sem.run,h2]
theorem dI {b o:Nat} {cs:List Value} (hc:Cells w.heap b o cs):∀ (m i:Nat) (acc:Array Value),i+m=cs.length->(loadCellsFrom ⟨b,o,none⟩ i m acc).run P w= .ok (acc++(cs.drop i).toArray) w
 | 0,i,acc,h=>by
  have:cs.drop i=[]:=List.drop_eq_nil_of_le (by omega);simp [loadCellsFrom,this]
 | m+1,i,acc,h=>by
  have hi:i<cs.length:=by omega
  have h1:=hc.cell i hi;have ih:=dI hc m (i+1) (acc.push cs[i]) (by omega);have hd:cs.drop i=cs[i]::cs.drop (i+1):=List.drop_eq_getElem_cons hi;simp only [loadCellsFrom,load,bH];simp only [Sem.run,Sem.run_bind,Result.andThen_ok,h1,ih];rw [hd];simp
theorem qI {b o:Nat} (cs:List Value) (hN0:AG P t (List.length cs)) (hx:ev n σ x= .pointer (some ⟨b,o,none⟩)) (hc:Cells w.heap b o cs):Ex P (ev n σ) w (.load t x) ty (.agg cs.toArray):=by
 intro _ _ _ _;obtain ⟨h1,h2⟩:=hN0 w;have h3:=dI (P:=P) hc cs.length 0 #[] (by omega);simp only [List.drop_zero,Array.empty_append] at h3;simp [execOp,hx,Instr.loadAt,Instr.sureAddr,loadVar,h1,h2,loadCells,h3]
theorem oQ {vs:Array Value} {i:Nat} {v:Value} (hx:ev n σ x= .tuple vs) (hi:vs[i]?=some v):Ex P (ev n σ) w (.extract x i) ty v:=by
 intro _ _ _ _;simp [execOp,hx,Instr.extract,hi]
end others
end
end Go.Eng
namespace Go.Eng
open Go.RowKit
structure Al (w w':World) (o:Obj):Prop where
 eq:w'=w.alloc o
structure Pt (w w':World) (b:Nat) (o:Obj):Prop where
 lt:b<w.heap.size
 eq:w'={ w with heap:=w.heap.setIfInBounds b o }
abbrev Ext (w w':World):Prop:=Below w.heap.size w w'
def Blk (h:Array Obj) (b:Nat) (cs:List Value) (T:TypeId):Prop:=h[b]?=some (.cells cs.toArray T (0,0))
theorem Blk.lt {h:Array Obj} {b:Nat} {cs:List Value} {T:TypeId} (hb:Blk h b cs T):b<h.size:=(Array.getElem?_eq_some_iff.1 hb).1
theorem Blk.cells {h:Array Obj} {b:Nat} {cs:List Value} {T:TypeId} (hb:Blk h b cs T) (o:Nat) (vs:List Value) (hv:∀ j (_:j<vs.length),cs[o+j]?=some vs[j]):Cells h b o vs:=
 ⟨_,_,_,hb,λj hj=>by rw [List.getElem?_toArray];exact hv j hj⟩
theorem Blk.one {h:Array Obj} {b:Nat} {cs:List Value} {T:TypeId} (hb:Blk h b cs T) (o:Nat) {v:Value} (hv:cs[o]?=some v):Cells h b o [v]:=
 hb.cells o [v] (λj hj=>by have:j=0:=(by simpa using hj);subst this;simpa using hv)
theorem Al.size {w w':World} {o:Obj} (h:Al w w' o):w'.heap.size=w.heap.size+1:=by rw [h.eq];show (w.heap.push o).size=_;simp
theorem Al.new {w w':World} {o:Obj} (h:Al w w' o):w'.heap[w.heap.size]?=some o:=by rw [h.eq];show (w.heap.push o)[_]?=_;simp
theorem Al.old {w w':World} {o:Obj} (h:Al w w' o) {b:Nat} (hb:b<w.heap.size):w'.heap[b]?=w.heap[b]? :=by rw [h.eq];show (w.heap.push o)[_]?=_;simp [Array.getElem?_push,Nat.ne_of_lt hb]
theorem Al.ext {w w':World} {o:Obj} (h:Al w w' o):Ext w w':=by rw [h.eq];exact (Below.refl _ _).alloc (Nat.le_refl _) o
theorem Pt.size {w w':World} {b:Nat} {o:Obj} (h:Pt w w' b o):w'.heap.size=w.heap.size:=by rw [h.eq];simp
theorem Pt.new {w w':World} {b:Nat} {o:Obj} (h:Pt w w' b o):w'.heap[b]?=some o:=by rw [h.eq];simp [h.lt]
theorem Pt.old {w w':World} {b:Nat} {o:Obj} (h:Pt w w' b o) {c:Nat} (hc:c≠b):w'.heap[c]?=w.heap[c]? :=by rw [h.eq];exact Array.getElem?_setIfInBounds_ne (Ne.symm hc)
theorem Pt.below {B:Nat} {w0 w w':World} {b:Nat} {o:Obj} (h:Pt w w' b o) (hb:Below B w0 w) (hB:B<=b):Below B w0 w':=
 hb.trans ⟨by rw [h.eq],by rw [h.eq],by rw [h.eq],by rw [h.size];exact Nat.le_refl _,λk hk=>h.old (by omega)⟩
theorem Blk.keep {h h':Array Obj} {b:Nat} {cs:List Value} {T:TypeId} (hb:Blk h b cs T) (e:h'[b]?=h[b]?):Blk h' b cs T:=e.trans hb
theorem Cells.keep {h h':Array Obj} {b o:Nat} {cs:List Value} (hb:Cells h b o cs) (e:h'[b]?=h[b]?):Cells h' b o cs:=by
 obtain ⟨c,t,fr,h1,h2⟩:=hb;exact ⟨c,t,fr,e.trans h1,h2⟩
theorem Blk.ext {w w':World} {b:Nat} {cs:List Value} {T:TypeId} (hb:Blk w.heap b cs T) (h:Ext w w'):Blk w'.heap b cs T:=hb.keep (h.block b hb.lt)
theorem Cells.ext {w w':World} {b o:Nat} {cs:List Value} (hb:Cells w.heap b o cs) (h:Ext w w'):Cells w'.heap b o cs:=hb.keep (h.block b hb.lt)
theorem Ext.trans' {B:Nat} {w0 w w':World} (h:Below B w0 w) (hB:B<=w0.heap.size) (k:Ext w w'):Below B w0 w':=h.trans (k.mono (Nat.le_trans hB h.size))
section
variable {P:Program} {n:Nat} {σ:Nat->Value} {w:World} {ty t:TypeId} {K:Value->World->Prop} {x y:Operand}
theorem Du {z:Value} (hz:ZV P t z) (k:∀ w',Al w w' (.cells z.cells t)->K (.pointer (some ⟨w.heap.size,0,none⟩)) w'):fU P (ev n σ) w (.alloc t) ty K:=by
 refine ⟨_,_,k (w.alloc (.cells z.cells t)) ⟨rfl⟩,.inl λ_ _ _ _=>?_⟩;have h:=hz w;simp [execOp,Instr.alloc,h,newVar,newRow,newObj,Sem.run]
theorem MK {v:Value} (hx:ev n σ x=v) (k:∀ w',Al w w' (.cells v.cells t)->K (.pointer (some ⟨w.heap.size,0,none⟩)) w'):fU P (ev n σ) w (.box t x) ty K:=by
 subst hx;refine ⟨_,_,k (w.alloc (.cells (ev n σ x).cells t)) ⟨rfl⟩,.inl λ_ _ _ _=>?_⟩;simp [execOp,Instr.box,newVar,newRow,newObj,Sem.run]
def aL (cs:List Value) (o:Nat) (vs:List Value):List Value:=cs.take o++vs++cs.drop (o+vs.length)
theorem ji {cs vs:List Value} {o:Nat} (h:o+vs.length<=cs.length):(aL cs o vs).length=cs.length:=by
 simp only [aL,List.length_append,List.length_take,List.length_drop];omega
def K9 (v:Value):Prop:=∀ cs,v≠.agg cs/\v≠.tuple cs
theorem fM {P:Program} {b:Nat} {T:TypeId}:∀ (vs:List Value) (i o:Nat) (cs:List Value) (w:World),Blk w.heap b cs T->o+i+vs.length<=cs.length->(∀ v ∈ vs,K9 v)->
  ∃ w',Pt w w' b (.cells (aL cs (o+i) vs).toArray T (0,0))/\(storeCells ⟨b,o,none⟩ vs i).run P w= .ok () w'
 | [],i,o,cs,w,hb,hl,h1=>by
  refine ⟨w,⟨hb.lt,?_⟩,by simp [storeCells]⟩;have e:aL cs (o+i) []=cs:=by simp [aL]
  rw [e]
  have:w.heap.setIfInBounds b (.cells cs.toArray T (0,0))=w.heap:=by
   apply Array.ext_getElem?;intro k
   by_cases hk:b=k
   .subst hk;rw [Array.getElem?_setIfInBounds_self,if_pos hb.lt];exact hb.symm
   .rw [Array.getElem?_setIfInBounds_ne hk]
  rw [this]
 | v::vs,i,o,cs,w,hb,hl,h1=>by
  have hv:=h1 v (List.mem_cons_self);have hlen:o+i<cs.length:=by simp only [List.length_cons] at hl;omega
  have hc:w.cell? ⟨b,o+i,none⟩=some cs[o+i]:=by
   simp only [World.cell?];rw [hb];simp [hlen]
  have hf:w.frozen? ⟨b,o+i,none⟩=false:=by
   simp only [World.frozen?];rw [hb];simp
  have hset:(w.setCell ⟨b,o+i,none⟩ v).heap[b]?=some (.cells (cs.set (o+i) v).toArray T (0,0)):=by
   simp only [World.setCell,Array.getElem?_modify,if_true];rw [hb];simp
  have hPt:Pt w (w.setCell ⟨b,o+i,none⟩ v) b (.cells (cs.set (o+i) v).toArray T (0,0)):=by
   refine ⟨hb.lt,?_⟩
   have:(w.setCell ⟨b,o+i,none⟩ v).heap=w.heap.setIfInBounds b (.cells (cs.set (o+i) v).toArray T (0,0)):=by
    apply Array.ext_getElem?;intro k
    by_cases hk:b=k
    .subst hk;rw [Array.getElem?_setIfInBounds_self,if_pos hb.lt];exact hset
    .rw [Array.getElem?_setIfInBounds_ne hk];simp only [World.setCell,Array.getElem?_modify,hk,if_false]
   rw [← this];rfl
  obtain ⟨w',hp,hr⟩:=fM (P:=P) vs (i+1) o (cs.set (o+i) v) (w.setCell ⟨b,o+i,none⟩ v) hset (by rw [List.length_set];simp only [List.length_cons] at hl;omega) (λu hu=>h1 u (List.mem_cons_of_mem _ hu));refine ⟨w',⟨hb.lt,?_⟩,?_⟩
  .rw [hp.eq,hPt.eq]
   have e:aL (cs.set (o+i) v) (o+(i+1)) vs=aL cs (o+i) (v::vs):=by
    simp only [aL,List.length_cons]
    have e1:List.take (o+(i+1)) (cs.set (o+i) v)=List.take (o+i) cs++[v]:=by
     rw [← Nat.add_assoc,List.take_succ_eq_append_getElem (by rw [List.length_set];exact hlen)];rw [List.take_set_of_le (Nat.le_refl _)];simp
    have e2:List.drop (o+(i+1)+vs.length) (cs.set (o+i) v)=List.drop (o+i+(vs.length+1)) cs:=by
     rw [List.drop_set_of_lt (by omega)]
     congr 1
     omega
    rw [e1,e2];simp
   rw [e];simp
  .simp only [storeCells,store,bH,Sem.run_bind]
   have:(Sem.store .plain ⟨b,o+i,none⟩ v (.pure ())).run P w= .ok () (w.setCell ⟨b,o+i,none⟩ v):=by
    cases v <;> first | exact absurd rfl (hv _).1 | exact absurd rfl (hv _).2 | simp [Sem.run,hc,hf]
   rw [this];simp only [Result.andThen_ok];exact hr
theorem qV {b o:Nat} {v:Value} {cs:List Value} {T:TypeId} (hs:SZ P t v.cells.size) (hx:ev n σ x= .pointer (some ⟨b,o,none⟩)) (hy:ev n σ y=v) (hb:Blk w.heap b cs T)
  (hl:o+v.cells.size<=cs.length) (h1:∀ u ∈ v.cells.toList,K9 u)
  (k:∀ w',Pt w w' b (.cells (aL cs o v.cells.toList).toArray T (0,0))->K undef w'):fU P (ev n σ) w (.store t x y) ty K:=by
 obtain ⟨w',hp,hr⟩:=fM (P:=P) v.cells.toList 0 o cs w hb (by simpa using hl) h1;refine ⟨undef,w',k w' hp,.inr ⟨rfl,λ_ _ _ _=>?_⟩⟩;have h:=hs w;simp [execOp,hx,hy,Instr.storeAt,Instr.sureAddr,storeVar,h,hr]
end
end Go.Eng
