/- A part of the engine: steps over the model. Over any program. -/
import Derived.Test.YtljfgmedbjlkaaaGreatCtl
namespace Go.Eng
open Go.RowKit
variable {rr:Option Nat}
def Own (h:Array Obj) (lo:Nat) (T:TypeId) (k:Nat) (v:Value) (m:Nat) (cs:List Value):Prop:=
 cs.length=m * k/\((v= .slice none 0 0/\m=0)\/∃ b cap xs,v= .slice (some ⟨b,0,none⟩) m cap/\lo<=b/\Blk h b (cs++xs) T/\m<=cap/\cap<=maxLen/\(cs++xs).length=cap * k)
theorem Own.row {w:World} {lo:Nat} {T:TypeId} {k:Nat} {v:Value} {m:Nat} {cs:List Value} (h:Own w.heap lo T k v m cs):w.ownsRow lo T k v m cs:=by
 obtain ⟨h1,h2⟩:=h;refine ⟨h1,?_⟩
 rcases h2 with h2 | ⟨b,cap,xs,hv,hb,hB,hm,hc,hl⟩
 .exact .inl h2
 .refine .inr ⟨b,cap,(cs++xs).toArray,hv,hb,hB,hm,hc,by simpa using hl,?_⟩;rw [← h1];simp
theorem Own.of_row {w:World} {lo:Nat} {T:TypeId} {k:Nat} {v:Value} {m:Nat} {cs:List Value} (h:w.ownsRow lo T k v m cs):Own w.heap lo T k v m cs:=by
 obtain ⟨h1,h2⟩:=h;refine ⟨h1,?_⟩
 rcases h2 with h2 | ⟨b,cap,cur,hv,hb,hB,hm,hc,hl,ht⟩
 .exact .inl h2
 .have e:cs++cur.toList.drop (m * k)=cur.toList:=by rw [← ht];exact List.take_append_drop _ _
  refine .inr ⟨b,cap,cur.toList.drop (m * k),hv,hb,?_,hm,hc,?_⟩
  .rw [e];exact hB
  .rw [e];simpa using hl
theorem Own.nil (h:Array Obj) (lo:Nat) (T:TypeId) (k:Nat):Own h lo T k (.slice none 0 0) 0 []:=⟨by simp,.inl ⟨rfl,rfl⟩⟩
def Src (h:Array Obj) (v:Value) (m k:Nat) (news:List Value):Prop:=
 news.length=m * k/\∃ a c,v= .slice a m c/\m<=c/\c<=maxLen/\(m=0\/∃ b o,a=some ⟨b,o,none⟩/\Cells h b o news)
theorem Src.nil (h:Array Obj) (k:Nat):Src h (.slice none 0 0) 0 k []:=⟨by simp,none,0,rfl,Nat.le_refl _,by unfold maxLen;omega,.inl rfl⟩
theorem Own.src {h:Array Obj} {lo:Nat} {T:TypeId} {k:Nat} {v:Value} {m:Nat} {cs:List Value} (ho:Own h lo T k v m cs):Src h v m k cs:=by
 obtain ⟨h1,⟨rfl,rfl⟩ | ⟨b,cap,xs,rfl,hlo,hB,hm,hc,hl⟩⟩:=ho
 .exact ⟨h1,none,0,rfl,Nat.le_refl _,by unfold maxLen;omega,.inl rfl⟩
 .refine ⟨h1,_,_,rfl,hm,hc,.inr ⟨b,0,rfl,hB.cells 0 cs λj hj=>?_⟩⟩;rw [Nat.zero_add,List.getElem?_append_left hj,List.getElem?_eq_getElem hj]
theorem Src.keep {h h':Array Obj} {v:Value} {m k:Nat} {cs:List Value} (hs:Src h v m k cs) (e:∀ b,b<h.size->h'[b]?=h[b]?):Src h' v m k cs:=by
 obtain ⟨h1,a,c,hv,hm,hc,h2⟩:=hs;refine ⟨h1,a,c,hv,hm,hc,?_⟩
 rcases h2 with h2 | ⟨b,o,ha,hC⟩
 .exact .inl h2
 .exact .inr ⟨b,o,ha,hC.keep (e b hC.lt)⟩
theorem Src.ext {w w':World} {v:Value} {m k:Nat} {cs:List Value} (hs:Src w.heap v m k cs) (h:Ext w w'):Src w'.heap v m k cs:=hs.keep λb hb=>h.block b hb
theorem Src.at {h:Array Obj} {a:Option Addr} {l c m k:Nat} {cs:List Value} (hs:Src h (.slice a l c) m k cs) (hm:0<m):∃ b o,a=some ⟨b,o,none⟩/\Cells h b o cs:=by
 obtain ⟨_,a',c',hv,_,_,h2⟩:=hs;injection hv with h1 _ _
 rcases h2 with h2 | ⟨b,o,ha,hC⟩
 .omega
 .exact ⟨b,o,h1.trans ha,hC⟩
theorem Cells.sub {h:Array Obj} {b o:Nat} {cs:List Value} (hc:Cells h b o cs) (i:Nat) (vs:List Value) (hv:∀ j (_:j<vs.length),cs[i+j]?=some vs[j]):Cells h b (o+i) vs:=by
 obtain ⟨c,e,fr,hb,hc⟩:=hc;refine ⟨c,e,fr,hb,λj hj=>?_⟩;have:=hv j hj
 have hlt:i+j<cs.length:=by
  rcases Nat.lt_or_ge (i+j) cs.length with h' | h'
  .exact h'
  .rw [List.getElem?_eq_none h'] at this;cases this
 rw [List.getElem?_eq_getElem hlt] at this;rw [Nat.add_assoc,hc (i+j) hlt,this]
section
variable {P:Program} {n:Nat} {σ:Nat->Value} {w:World} {ty t:TypeId} {K:Value->World->Prop} {x y s:Operand}
theorem dE {e:TypeId} {a:Option Addr} {l c j k:Nat} {kk:IntKind} {bb:Nat} {z:Value} (hS:SL P t e k bb z) (hx:ev n σ x= .slice a l c) (hy:ev n σ y= .int kk (j:Int)) (hj:j<=c):Ex P (ev n σ) w (.slice t x none (some y) none) ty (.slice a j c):=by
 intro _ _ _ _;obtain ⟨inf,hi1,hi2,_,_⟩:=hS.inf;have e1:(0:Int)<=(j:Int)/\(j:Int)<=(c:Int):=⟨by omega,by omega⟩;have e2:Option.map (λx:Addr=>x.add 0) a=a:=by cases a <;> simp [Addr.add]
 simp [execOp,hx,hy,Instr.sliceAt,Instr.slice,run_underlying hS.und,Instr.sliceBounds,Instr.sliceBound,asIntOf,sizeOf,typeInfo,hi1,hj,e2]
theorem oD {len:Nat} {parts:Array (Nat × Operand)} {e:TypeId} {cs:List Value} (hrun:∀ w,(Instr.buildSlice t len (parts.map λ(i,x)=>(i,ev n σ x))).run P w= .ok (.slice (some ⟨w.heap.size,0,none⟩) len len) (w.alloc (.cells cs.toArray e)))
  (k:∀ w',Al w w' (.cells cs.toArray e)->K (.slice (some ⟨w.heap.size,0,none⟩) len len) w'):fU P (ev n σ) w (.buildSlice t len parts) ty K:=by
 refine ⟨_,_,k _ ⟨rfl⟩,.inl λ_ _ _ _=>?_⟩;have h:=hrun w;simp only [execOp];rw [Sem.run_bind,h];rfl
theorem aw {parts:Array (Nat × Operand)} {v:Value} (hrun:∀ w,(Instr.build t (parts.map λ(i,x)=>(i,ev n σ x))).run P w= .ok v w):Ex P (ev n σ) w (.build t parts) ty v:=by
 intro _ _ _ _;have h:=hrun w;simp only [execOp];rw [Sem.run_bind,h];rfl
theorem fP (z:Array Value) (c k:Nat) (hz:z.size=k) (hk:0<k):(madeCells z (c * k)).toList=(List.replicate c z.toList).flatten:=by
 subst hz
 induction c with
 | zero=>simp [madeCells]
 | succ c ih=>
  rw [List.replicate_succ',List.flatten_append,← ih]
  simp only [madeCells,Nat.succ_mul,Array.toList_map,Array.toList_range,List.range_add,List.map_append]
  congr 1
  simp only [List.map_map,List.flatten_cons,List.flatten_nil,List.append_nil]
  apply List.ext_getElem
  .simp
  .intro i h1 h2
   simp at h1
   simp only [List.getElem_map,List.getElem_range,Function.comp]
   have:(c * z.size+i) % z.size=i:=by rw [Nat.mul_add_mod_self_right,Nat.mod_eq_of_lt h1]
   rw [this]
   simp [h1]
end
def flat {α:Type} (enc:α->List Value) (xs:List α):List Value:=xs.flatMap enc
theorem aI {α:Type} {enc:α->List Value} {k:Nat} (hk:∀ x,(enc x).length=k) (xs:List α):(flat enc xs).length=xs.length * k:=by
 induction xs with
 | nil=>simp [flat]
 | cons x xs ih=>
  have e:flat enc (x::xs)=enc x++flat enc xs:=by simp [flat]
  rw [e,List.length_append,ih,hk,List.length_cons,Nat.succ_mul];omega
theorem qh {α:Type} (enc:α->List Value) (xs ys:List α):flat enc (xs++ys)=flat enc xs++flat enc ys:=by simp [flat]
theorem Jq {α:Type} (enc:α->List Value) (x:α):flat enc [x]=enc x:=by simp [flat]
theorem jy? {α:Type} [Inhabited α] {enc:α->List Value} {k:Nat} (hk:∀ x,(enc x).length=k):∀ (xs:List α) (i j:Nat),i<xs.length->j<k->(flat enc xs)[i * k+j]?=(enc (el xs i))[j]?
 | [],i,j,h,_=>by simp at h
 | x::xs,0,j,_,hj=>by
  have e:flat enc (x::xs)=enc x++flat enc xs:=by simp [flat]
  rw [e,Nat.zero_mul,Nat.zero_add,List.getElem?_append_left (by rw [hk];exact hj)];simp [el]
 | x::xs,i+1,j,h,hj=>by
  have e:flat enc (x::xs)=enc x++flat enc xs:=by simp [flat]
  have e2:(i+1) * k+j-k=i * k+j:=by rw [Nat.succ_mul];omega
  rw [e,List.getElem?_append_right (by rw [hk,Nat.succ_mul];omega),hk,e2,jy? hk xs i j (by simpa using h) hj];simp [el]
theorem Cells.elem {α:Type} [Inhabited α] {enc:α->List Value} {k:Nat} (hk:∀ x,(enc x).length=k) {h:Array Obj} {b o:Nat} {xs:List α} (hc:Cells h b o (flat enc xs)) {i:Nat} (hi:i<xs.length):Cells h b (o+i * k) (enc (el xs i)):=
 hc.sub (i * k) _ λj hj=>by
  have hj':j<k:=by rw [hk] at hj;exact hj
  rw [jy? hk xs i j hi hj',List.getElem?_eq_getElem hj]
theorem Cells.fld {h:Array Obj} {b o:Nat} {cs:List Value} (hc:Cells h b o cs) (f:Nat) {v:Value} (hv:cs[f]?=some v):Cells h b (o+f) [v]:=
 hc.sub f [v] λj hj=>by have:j=0:=(by simpa using hj);subst this;simpa using hv
theorem Ih {P:Program} {n:Nat} {σ:Nat->Value} {w:World} {ty t:TypeId} {x y:Operand} {b o len cap i e k bb:Nat} {z:Value} {kk:IntKind} {a:Option Addr} (hS:SL P t e k bb z) (hx:ev n σ x= .slice a len cap) (ha:a=some ⟨b,o,none⟩) (hy:ev n σ y= .int kk (i:Int)) (hi:i<len):Ex P (ev n σ) w (.indexAddr t x y) ty (.pointer (some ⟨b,o+i * k,none⟩)):=by
 subst ha;exact Df hS hx hy hi
def zM (σ:Nat->Value):List (Nat × Value)->Prop
 | []=>True
 | (s,v)::l=>σ s=v/\zM σ l
def Lh:List (Nat × Value)->(Nat->Value)->Nat->Value
 | [],τ=>τ
 | (s,v)::l,τ=>gT (Lh l τ) s v
theorem kN {σ:Nat->Value}:∀ {l:List (Nat × Value)},zM σ l->Lh l σ=σ
 | [],_=>rfl
 | (s,v)::l,⟨h1,h2⟩=>by rw [Lh,kN h2,FY h1]
theorem QR {P:Program} {Q:Exit->Act->World->Prop} {n:Nat} {σ:Nat->Value} {ds:List Deferred} {w:World} {c:Code} {α:Type} (V:α->List (Nat × Value)) (Inv:α->World->Prop) (μ:α->Nat) (a0:α) (h0:zM σ (V a0)) (hi:Inv a0 w)
  (round:∀ τ x w,Inv x w->c.wq rr P (Exit.then (λa' w'=>∃ σ' x',a'=F n σ' ds/\zM σ' (V x')/\Inv x' w'/\μ x'<μ x) Q) (F n (Lh (V x) τ) ds) w):(Code.loop c).wq rr P Q (F n σ ds) w:=by
 refine loop (λm σ w=>∃ x,m=μ x/\zM σ (V x)/\Inv x w) (μ a0) ⟨a0,rfl,h0,hi⟩ ?_;rintro m σ w ⟨x,rfl,hV,hI⟩;have:=round σ x w hI;rw [kN hV] at this;refine wpIn_mono this λe a' w' hq=>?_;cases e <;> try exact hq
 obtain ⟨σ',x',ha,hV',hI',hm⟩:=hq;exact ⟨μ x',σ',hm,ha,x',rfl,hV',hI'⟩
theorem RV {P:Program} {Q:Exit->Act->World->Prop} {n:Nat} {ds:List Deferred} {w:World} {x y:Code} {a:Act} {α:Type} (V:α->List (Nat × Value)) (M:α->World->Prop) (h:x.wq rr P (Exit.then (λa' w'=>∃ σ' z,a'=F n σ' ds/\zM σ' (V z)/\M z w') Q) a w)
  (k:∀ τ z w',M z w'->y.wq rr P Q (F n (Lh (V z) τ) ds) w'):(Code.seq x y).wq rr P Q a w:=
 wpIn_seq (wpIn_mono h λe a' w' hq=>by
  cases e <;> try exact hq
  obtain ⟨σ',z,rfl,hV,hM⟩:=hq;have:=k σ' z w' hM;rw [kN hV] at this
  exact this)
end Go.Eng
namespace Go.Eng
open Go.RowKit
variable {rr:Option Nat}
theorem kT {P:Program} {Q:Exit->Act->World->Prop} {id:Nat} {l:List Oper} {a:Act} {w:World} (L qs:List Nat) (s:Sched) (hm:P.follows .mixedOrders=true) (hfit:s.fits l.toArray L qs=true)
  (h:∀ w1,Ext w w1->w1.heap.size=w.heap.size->gQ P l.toArray (NP Q) (λw'=>Ext w1 w') L qs s a w1):(Code.region id l.toArray true).wq rr P Q a w:=
 Lv (λw'=>Ext w.drew w') L qs s hm hfit (Below.refl _ _) (h w.drew (Below.refl _ _).drew rfl)
theorem wpE_skip {P:Program} {ops:Array Oper} {Q:Exit->Act->World->Prop} {S:World->Prop} {L:List Nat} {n:Nat} {σ:Nat->Value} {ds:List Deferred} {w:World} {op:Op} {ty:TypeId} {pos:String} {af:Array Edge} {d:Nat}
  {i j t:Nat} {b b':Bool} {K:Act->World->Prop} (hi:ops[i]?=some ⟨some d,op,ty,pos,af,some (j,b)⟩) (hj:(ops[j]?).bind (·.dst)=some t) (ht:ev n σ (.tmp t)= .bool b') (hlt:t<n) (hne:(b' == b)=false)
  (hS:bJ ops L i=true->S w) (h:K (F n (gT σ d undef) ds) w):uV P ops Q S L i K (F n σ ds) w:=by
 unfold uV wpOp;simp only [hi,dX hj ht hlt,hne,Bool.false_eq_true,if_false,fT];exact ⟨hS,h⟩
end Go.Eng
namespace Go.Eng
open Go.RowKit
variable {rr:Option Nat}
theorem aY {P:Program} {t e k bb:Nat} {z:Value} (h:P.underlying t=some (.slice e)) (hi:(P.info? e).map (λi=>(i.size,i.bytes,i.zero))=some (k,bb,some z)) (hz:z.cells.size=k) (hp:0<k):SL P t e k bb z:=by
 refine ⟨h,?_,hz,hp⟩
 cases hh:P.info? e with
 | none=>rw [hh] at hi;cases hi
 | some i=>
  rw [hh] at hi
  simp only [Option.map_some,Option.some.injEq,Prod.mk.injEq] at hi
  exact ⟨i,rfl,hi.1,hi.2.1,hi.2.2⟩
theorem aV {P:Program} {n:Nat} {σ:Nat->Value} {w:World} {ty t:TypeId} {x:Operand} {p:Prop} [Decidable p] (h:ev n σ x= .bool (decide p)):Ex P (ev n σ) w (.unOp .not t x) ty (.bool (decide (¬ p))):=by
 intro _ _ _ _;simp [execOp,h,Op.unary]
theorem aN {cs vs:List Value} {o:Nat} (h:(cs.drop o).take vs.length=vs):∀ j (_:j<vs.length),cs[o+j]?=some vs[j]:=by
 intro j hj;have h1:((cs.drop o).take vs.length)[j]?=vs[j]? :=by rw [h]
 rw [List.getElem?_take_of_lt hj,List.getElem?_drop,List.getElem?_eq_getElem hj] at h1;exact h1
theorem ones {vs:List Value} (h:vs.all (·.oneCell')=true):∀ u ∈ vs,u.oneCell'=true:=λu hu=>List.all_eq_true.1 h u hu
theorem zS {v:Value} (h:v.oneCell'=true):K9 v:=λcs=>⟨λe=>(by subst e;cases h),λe=>(by subst e;cases h)⟩
theorem R8 {P:Program} {n:Nat} {σ:Nat->Value} {w:World} {ty t:TypeId} {K:Value->World->Prop} {x y:Operand} {b o:Nat} {v:Value} {cs:List Value} {T:TypeId} (hs:SZ P t v.cells.size) (hx:ev n σ x= .pointer (some ⟨b,o,none⟩)) (hy:ev n σ y=v) (hb:Blk w.heap b cs T)
  (hl:o+v.cells.size<=cs.length) (h1:v.cells.toList.all (·.oneCell')=true)
  (k:∀ w',Pt w w' b (.cells (aL cs o v.cells.toList).toArray T (0,0))->K undef w'):fU P (ev n σ) w (.store t x y) ty K:=
 qV hs hx hy hb hl (λu hu=>zS (ones h1 u hu)) k
theorem leaveC {P:Program} {fn:Func} {R:Ending->World->Prop} {n:Nat} {σ:Nat->Value} {w:World} {t T b o:Nat} {cs:List Value} (hr:fn.results=#[.cell t T]) (hA:AG P T cs.length) (ht:ev n σ (.tmp t)= .pointer (some ⟨b,o,none⟩)) (hc:Cells w.heap b o cs)
  (h:R (.returned (.agg cs.toArray)) w):bodyPost P fn R .ret (F n σ []) w:=by
 refine ⟨rfl,.agg cs.toArray,?_,h⟩;have h1:(F n σ []).tmps[t]?.getD undef= .pointer (some ⟨b,o,none⟩):=by rw [← Array.getD_eq_getD_getElem?,← ht,← aP n σ []];rfl
 obtain ⟨h2,h3⟩:=hA w;have h4:=dI (P:=P) hc cs.length 0 #[] (by omega);simp only [List.drop_zero,Array.empty_append] at h4;simp [results,hr,h1,asAddr,loadVar,h2,h3,loadCells,h4]
end Go.Eng
namespace Go.Eng
open Go.RowKit
variable {rr:Option Nat}
section
variable {Q:Exit->Act->World->Prop} {K:Act->World->Prop} {a:Act} {w:World} {id id':Nat}
theorem be (h:Q .normal a w):Exit.inBlock id Q (.exit id) a w:=by simp only [Exit.inBlock,if_true];exact h
theorem bx (hne:(id' == id)=false) (h:Q (.exit id') a w):Exit.inBlock id Q (.exit id') a w:=by
 have:¬ id'=id:=by simpa using hne
 simp only [Exit.inBlock,this,if_false];exact h
end
end Go.Eng
namespace Go.Eng
theorem Src.form {h:Array Obj} {v:Value} {m k:Nat} {cs:List Value} (hs:Src h v m k cs):∃ a c,v= .slice a m c/\m<=c/\c<=9223372036854775807:=by
 obtain ⟨_,a,c,h1,h2,h3,_⟩:=hs;exact ⟨a,c,h1,h2,by unfold maxLen at h3;omega⟩
end Go.Eng
namespace Go.Eng
open Go.RowKit
variable {rr:Option Nat}
theorem yt {α:Type} {enc:α->List Value} {k:Nat} (hk:∀ x,(enc x).length=k) (R:List Value) (v:α):∀ (xs:List α) (i:Nat),i<xs.length->aL (flat enc xs++R) (i * k) (enc v)=flat enc (xs.set i v)++R
 | [],i,h=>by simp at h
 | x::xs,0,_=>by
  have e:flat enc (x::xs)=enc x++flat enc xs:=by simp [flat]
  have e2:flat enc (v::xs)=enc v++flat enc xs:=by simp [flat]
  simp only [aL,Nat.zero_mul,List.take_zero,List.nil_append,Nat.zero_add,hk,List.set_cons_zero,e,e2,List.append_assoc];rw [← hk x,List.drop_left]
 | x::xs,i+1,h=>by
  have ih:=yt hk R v xs i (by simpa using h);have e:flat enc (x::xs)=enc x++flat enc xs:=by simp [flat]
  have e2:flat enc (x::xs.set i v)=enc x++flat enc (xs.set i v):=by simp [flat]
  have e3:(i+1) * k=(enc x).length+i * k:=by rw [hk,Nat.succ_mul];omega
  rw [List.set_cons_succ,e2,List.append_assoc,← ih];simp only [aL,e,List.append_assoc,e3];rw [List.take_length_add_append,Nat.add_assoc,List.drop_length_add_append];simp only [List.append_assoc]
theorem Ri {P:Program} {n:Nat} {σ:Nat->Value} {w:World} {ty t:TypeId} {K:Value->World->Prop} {x y:Operand} {α:Type} {enc:α->List Value} {k:Nat} (hk:∀ x,(enc x).length=k) {b i:Nat} {v:Value} {u:α} {xs:List α} {R:List Value} {T:TypeId} (hs:SZ P t k) (hx:ev n σ x= .pointer (some ⟨b,0+i * k,none⟩)) (hy:ev n σ y=v) (hv:v.cells.toList=enc u) (hb:Blk w.heap b (flat enc xs++R) T)
  (hi:i<xs.length) (h1:(enc u).all (·.oneCell')=true)
  (kk:∀ w',Pt w w' b (.cells (flat enc (xs.set i u)++R).toArray T (0,0))->K undef w'):fU P (ev n σ) w (.store t x y) ty K:=by
 have hsz:v.cells.size=k:=by rw [← Array.length_toList,hv,hk]
 refine qV (v:=v) (by rw [hsz];exact hs) hx hy hb ?_ (λz hz=>zS (ones h1 z (by rw [hv] at hz;exact hz))) λw' hp=>kk w' ?_
 .rw [hsz,List.length_append,aI hk];have:(i+1) * k<=xs.length * k:=Nat.mul_le_mul_right _ hi;rw [Nat.succ_mul] at this;omega
 .rw [hv,Nat.zero_add,yt hk R u xs i hi] at hp;exact hp
end Go.Eng
namespace Go.Eng
open Go.RowKit
variable {rr:Option Nat}
end Go.Eng
namespace Go.Eng
open Go.RowKit
variable {rr:Option Nat}
structure OB (h:Array Obj) (lo:Nat) (T:TypeId) (k b c:Nat) (cs:List Value):Prop where
 lo:lo<=b
 blk:∃ R,Blk h b (cs++R) T/\(cs++R).length=c * k
 cap:c<=9223372036854775807
theorem OB.lt {h:Array Obj} {lo:Nat} {T:TypeId} {k b c:Nat} {cs:List Value} (ho:OB h lo T k b c cs):b<h.size:=by
 obtain ⟨R,hB,hl⟩:=ho.blk;exact hB.lt
theorem Qf {P:Program} {n:Nat} {σ:Nat->Value} {w:World} {ty t:TypeId} {K:Value->World->Prop} {x y:Operand} {α:Type} {enc:α->List Value} {k:Nat} (hk:∀ x,(enc x).length=k) {lo b c i:Nat} {v:Value} {u:α} {xs:List α} {T:TypeId} (hs:SZ P t k) (hx:ev n σ x= .pointer (some ⟨b,0+i * k,none⟩)) (hy:ev n σ y=v) (hv:v.cells.toList=enc u) (ho:OB w.heap lo T k b c (flat enc xs))
  (hi:i<xs.length) (h1:(enc u).all (·.oneCell')=true)
  (kk:∀ w' o,Pt w w' b o->OB w'.heap lo T k b c (flat enc (xs.set i u))->K undef w'):fU P (ev n σ) w (.store t x y) ty K:=by
 obtain ⟨R,hB,hR⟩:=ho.blk;refine Ri hk hs hx hy hv hB hi h1 λw' hp=>kk w' _ hp ⟨ho.lo,⟨R,hp.new,?_⟩,ho.cap⟩;rw [List.length_append,aI hk,List.length_set,← aI hk xs,← List.length_append];exact hR
end Go.Eng
namespace Go.Eng
open Go.RowKit
variable {rr:Option Nat}
end Go.Eng
namespace Go.Eng
open Go.RowKit
variable {rr:Option Nat}
end Go.Eng
namespace Go.Eng
open Go.RowKit
variable {rr:Option Nat}
section
variable {P:Program} {Q:Exit->Act->World->Prop} {n:Nat} {σ:Nat->Value} {ds:List Deferred} {w:World}
theorem Si {x y:Code} {a:Act} (h:∀ Q':Exit->Act->World->Prop,(∀ a w,y.wq rr P Q a w->Q' .normal a w)->(∀ a w,Q .ret a w->Q' .ret a w)->(∀ id a w,Q (.exit id) a w->Q' (.exit id) a w)->x.wq rr P Q' a w):(Code.seq x y).wq rr P Q a w:=
 wpIn_seq (h _ (λ_ _ h=>h) (λ_ _ h=>h) (λ_ _ _ h=>h))
theorem OL {id:Nat} {c:Code} {a:Act} (h:∀ Q':Exit->Act->World->Prop,(∀ a w,Q .normal a w->Q' .normal a w)->(∀ a w,Q .ret a w->Q' .ret a w)->(∀ id' a w,(id' == id)=false->Q (.exit id') a w->Q' (.exit id') a w)->(∀ a w,Q .normal a w->Q' (.exit id) a w)->c.wq rr P Q' a w):(Code.block id c).wq rr P Q a w:=
 wpIn_block (h _ (λ_ _ h=>h) (λ_ _ h=>h) (λ_ _ _ hne h=>bx hne h) (λ_ _ h=>be h))
theorem ay {c:Code} {α:Type} (V:α->List (Nat × Value)) (Inv:α->World->Prop) (μ:α->Nat) (a0:α) (h0:zM σ (V a0)) (hi:Inv a0 w)
  (round:∀ τ x w,Inv x w->∀ Q':Exit->Act->World->Prop,(∀ σ' x' w',zM σ' (V x')->Inv x' w'->μ x'<μ x->Q' .normal (F n σ' ds) w')->(∀ a w,Q .ret a w->Q' .ret a w)->(∀ id a w,Q (.exit id) a w->Q' (.exit id) a w)->c.wq rr P Q' (F n (Lh (V x) τ) ds) w):(Code.loop c).wq rr P Q (F n σ ds) w:=
 QR V Inv μ a0 h0 hi λτ x w hx=>round τ x w hx _ (λσ' x' _ h1 h2 h3=>⟨σ',x',rfl,h1,h2,h3⟩) (λ_ _ h=>h) (λ_ _ _ h=>h)
theorem seqLK {x y:Code} {a:Act} {α:Type} (V:α->List (Nat × Value)) (M:α->World->Prop)
  (h:∀ Q':Exit->Act->World->Prop,(∀ σ' z w',zM σ' (V z)->M z w'->Q' .normal (F n σ' ds) w')->(∀ a w,Q .ret a w->Q' .ret a w)->(∀ id a w,Q (.exit id) a w->Q' (.exit id) a w)->x.wq rr P Q' a w)
  (k:∀ τ z w',M z w'->y.wq rr P Q (F n (Lh (V z) τ) ds) w'):(Code.seq x y).wq rr P Q a w:=
 RV V M (h _ (λσ' z _ h1 h2=>⟨σ',z,rfl,h1,h2⟩) (λ_ _ h=>h) (λ_ _ _ h=>h)) k
end
end Go.Eng
namespace Go.Eng
end Go.Eng
namespace Go.Eng
open Go.RowKit
variable {rr:Option Nat}
theorem Blk.src1 {h:Array Obj} {b:Nat} {cs:List Value} {T:TypeId} {k m:Nat} (hb:Blk h b cs T) (hl:cs.length=m * k) (hm:m<=9223372036854775807):Src h (.slice (some ⟨b,0,none⟩) m m) m k cs:=
 ⟨hl,_,m,rfl,Nat.le_refl _,by unfold maxLen;omega,.inr ⟨b,0,rfl,hb.cells 0 cs λj hj=>by rw [Nat.zero_add,List.getElem?_eq_getElem hj]⟩⟩
end Go.Eng
namespace Go.Eng
open Go.RowKit
variable {rr:Option Nat}
end Go.Eng
namespace Go.Eng
open Go.RowKit
variable {rr:Option Nat}
structure EQ2 (P:Program) (t:TypeId):Prop where
 fs:∃ f1 f2:Field,P.underlying t=some (.struct #[f1,f2])/\(f1.name == "_")=false/\(f2.name == "_")=false/\f1.offset=0/\f2.offset=1/\P.underlying f1.type=some (.int .i64)/\P.underlying f2.type=some (.int .i64)
 st:P.stoodInHeld t=false
 gd:P.eqGuardType P.depth t=false
theorem mR {P:Program} {t:TypeId} (hT:P.underlying t=some (.int .i64)) (d:Nat) (a b:Int) (w:World):(Op.equalIn (d+1) t (.int .i64 a) (.int .i64 b)).run P w= .ok (decide (a=b)) w:=by
 simp [Op.equalIn,run_underlying hT];rfl
section
variable {P:Program} {n:Nat} {σ:Nat->Value} {w:World} {ty t t':TypeId} {x y:Operand} {a b a' b':Int}
end
end Go.Eng
namespace Go.Eng
theorem Src.take {α:Type} {enc:α->List Value} {h:Array Obj} {k m j:Nat} (hk:∀ x,(enc x).length=k) {a:Option Addr} {c:Nat} {xs:List α} (hs:Src h (.slice a m c) m k (flat enc xs)) (hj:j<=m) (hm:m=xs.length):Src h (.slice a j c) j k (flat enc (xs.take j)):=by
 subst hm;obtain ⟨h1,a',c',hv,hm,hc,h2⟩:=hs;injection hv with e1 e2 e3;subst e1;subst e3;refine ⟨by rw [aI hk,List.length_take,Nat.min_eq_left hj],a,c,rfl,by omega,hc,?_⟩
 rcases h2 with h2 | ⟨b,o,ha,hC⟩
 .exact .inl (by omega)
 .refine .inr ⟨b,o,ha,?_⟩;have e:flat enc xs=flat enc (xs.take j)++flat enc (xs.drop j):=by rw [← qh,List.take_append_drop]
  have:=hC.sub 0 (flat enc (xs.take j)) λi hi=>by
   rw [Nat.zero_add,e,List.getElem?_append_left hi,List.getElem?_eq_getElem hi]
  simpa using this
theorem aC {a b:ByteArray} (h:a.toList=b.toList):a=b:=by
 rw [ByteArray.toList_eq,ByteArray.toList_eq] at h;cases a;cases b
 simpa using h
end Go.Eng
namespace Go.Eng
theorem Src.capl {h:Array Obj} {a:Option Addr} {l c m k:Nat} {cs:List Value} (hs:Src h (.slice a l c) m k cs):l=m/\m<=c/\c<=9223372036854775807:=by
 obtain ⟨_,a',c',hv,h1,h2,_⟩:=hs;injection hv with e1 e2 e3;subst e2;subst e3;exact ⟨rfl,h1,by unfold maxLen at h2;omega⟩
end Go.Eng
namespace Go.Eng
open Go.RowKit
variable {rr:Option Nat}
def Ng (w w':World) (sv v':Value):Prop:=v'.ownBlock=sv.ownBlock\/(Ext w w'/\∀ k,v'.ownBlock=some k->k=w.heap.size)
theorem bZ (w:World) (o:Obj):Ext w (w.drew.alloc o):=((Below.refl _ _).drew).alloc (Nat.le_refl _) o
theorem DY {P:Program} {n:Nat} {σ:Nat->Value} {w:World} {ty t:TypeId} {K:Value->World->Prop} {x s:Operand} {e k bb lo m mx:Nat} {z sv xv:Value} {cs news:List Value} (hS:SL P t e k bb z) (hs:ev n σ s=sv) (hx:ev n σ x=xv) (hown:Own w.heap lo e k sv m cs) (hsrc:Src w.heap xv mx k news)
  (h1:∀ u ∈ news,u.oneCell'=true) (hbytes:(m+mx) * bb<=140737488355328) (hbb:0<bb) (hlo:lo<=w.heap.size)
  (kk:∀ v' w',Own w'.heap lo e k v' (m+mx) (cs++news)->w.grownBy w' sv.ownBlock->(mx≠0->v'≠.slice none 0 0)->Ng w w' sv v'->K v' w') :
  fU P (ev n σ) w (.call { callee:=.builtin .append,args:=#[s,x],argTypes:=#[t,t] }) ty K:=by
 obtain ⟨i,hi,hk,hbb',hz⟩:=hS.inf;subst hk;subst hbb';obtain ⟨hl,a,c,rfl,hmc,hcm,hsrc⟩:=hsrc
 have h63:m+mx<=maxLen:=by
  have:(m+mx) * 1<=(m+mx) * i.bytes:=Nat.mul_le_mul_left _ hbb;unfold maxLen;omega
 have main:∃ v' w',(Builtin.append_ #[t,t] ty #[sv,.slice a mx c]).run P w= .ok v' w'/\w'.ownsRow lo e i.size v' (m+mx) (cs++news)/\w.grownBy w' sv.ownBlock/\(mx≠0->v'≠.slice none 0 0)/\Ng w w' sv v':=by
  cases a with
  | some a=>
   have hc:∀ (j:Nat) (u:Value),news[j]?=some u->w.cell? (a.add j)=some u:=by
    intro j u hu
    have hj:j<news.length:=by
     rcases Nat.lt_or_ge j news.length with h' | h'
     .exact h'
     .rw [List.getElem?_eq_none h'] at hu;cases hu
    rcases hsrc with rfl | ⟨b,o,ha,hC⟩
    .simp at hl;rw [hl] at hj;simp at hj
    .injection ha with ha;subst ha;rw [bH,hC.cell j hj];rw [List.getElem?_eq_getElem hj] at hu;exact hu
   obtain ⟨v',w',hr,ho,hg,hn⟩:=run_append_own (P:=P) w lo t ty e i z i.size i.bytes hS.und hi hz rfl rfl hS.zs hS.pos sv m cs hown.row a mx c news hl hc h1 h63 hbytes hlo
   refine ⟨v',w',hr,ho,hg,λhm h=>hm (hn.1 h).2,?_⟩
   rcases hown.2 with ⟨rfl,rfl⟩ | ⟨b,cap,R,rfl,hlo',hB,hmc',hcap,hR⟩
   .by_cases hm0:mx=0
    .exact .inl (by rw [hn.2 ⟨rfl,hm0⟩])
    .have hr':=run_append_nil (P:=P) (ty:=ty) w t e i z hS.und hi hz a mx c news hl hc (by omega) (by unfold maxLen at h63;omega) (by have:=hbytes;simp only [Nat.zero_add] at this;omega)
     rw [hr] at hr'
     injection hr' with e1 e2
     subst e1;subst e2
     exact .inr ⟨bZ _ _,λk hk=>by simp [Value.ownBlock] at hk;omega⟩
   .by_cases hroom:m+mx<=cap
    .have hfit:m * i.size+news.length<=(cs++R).toArray.size:=by
      rw [List.size_toArray,hR,hl,← Nat.add_mul];exact Nat.mul_le_mul_right _ hroom
     have hr':=run_append_room (P:=P) (ty:=ty) w t e i hS.und hi b m cap (cs++R).toArray hB a mx c news hl hc h1 hroom hfit
     rw [hr] at hr'
     injection hr' with e1 e2
     subst e1
     exact .inl rfl
    .have holds:∀ j u,cs[j]?=some u->w.cell? ((⟨b,0,none⟩:Addr).add j)=some u:=hown.row.cells (g:=b) rfl
     have hr':=run_append_grow (P:=P) (ty:=ty) w t e i z hS.und hi hz ⟨b,0,none⟩ m cap cs hown.1 holds a mx c news hl hc (by omega) (by unfold maxLen at h63;omega) (growslice_fits (by omega) hbytes)
     rw [hr] at hr'
     injection hr' with e1 e2
     subst e1;subst e2
     exact .inr ⟨bZ _ _,λk hk=>by simp [Value.ownBlock] at hk;omega⟩
  | none=>
   rcases hsrc with rfl | ⟨b,o,ha,hC⟩
   case inr=>cases ha
   have hn:news=[]:=List.eq_nil_of_length_eq_zero (by simpa using hl)
   subst hn
   refine ⟨sv,w,?_,?_,⟨rfl,rfl,rfl,Nat.le_refl _,λ_ _ _=>rfl⟩,λh=>absurd rfl h,.inl rfl⟩
   .have hsl:∃ a c,sv= .slice a m c/\m<=c:=by
     rcases hown.2 with ⟨rfl,rfl⟩ | ⟨b,cap,xs,rfl,_,_,hm,_⟩
     .exact ⟨none,0,rfl,Nat.le_refl _⟩
     .exact ⟨_,cap,rfl,hm⟩
    obtain ⟨a,c',rfl,hmc'⟩:=hsl
    cases a <;> simp [Builtin.append_,run_underlying hS.und,sizeOf,typeInfo,hi,Builtin.lenOf,hmc',Builtin.firstCells,storeCells]
   .simpa using hown.row
 obtain ⟨v',w',hr,ho,hg,hn,hw⟩:=main;refine ⟨v',w',kk v' w' (Own.of_row ho) hg hn hw,.inl λ_ _ _ _=>?_⟩;simp [execOp,resolve,invoke,builtin,hs,hx,hr]
end Go.Eng
namespace Go.Eng
open Go.RowKit
variable {rr:Option Nat}
structure Mod (S:Nat->Prop) (w w':World):Prop where
 os:w'.os=w.os
 tape:w'.tape=w.tape
 output:w'.output=w.output
 size:w.heap.size<=w'.heap.size
 block:∀ k,k<w.heap.size->¬ S k->w'.heap[k]?=w.heap[k]?
section
variable {S:Nat->Prop} {w0 w w':World}
theorem Mod.refl (S:Nat->Prop) (w:World):Mod S w w:=⟨rfl,rfl,rfl,Nat.le_refl _,λ_ _ _=>rfl⟩
theorem Mod.ext (h:Mod S w0 w) (k:Ext w w'):Mod S w0 w':=⟨k.os.trans h.os,k.tape.trans h.tape,k.output.trans h.output,Nat.le_trans h.size k.size,λi hi hs=>(k.block i (Nat.lt_of_lt_of_le hi h.size)).trans (h.block i hi hs)⟩
theorem Mod.pt {b:Nat} {o:Obj} (h:Mod S w0 w) (k:Pt w w' b o) (hb:S b\/w0.heap.size<=b):Mod S w0 w':=by
 refine ⟨by rw [k.eq];exact h.os,by rw [k.eq];exact h.tape,by rw [k.eq];exact h.output,by rw [k.size];exact h.size,λi hi hs=>?_⟩;have:i≠b:=λe=>by subst e;rcases hb with hb | hb;exact hs hb;omega
 rw [k.old this];exact h.block i hi hs
theorem Mod.grown {row:Option Nat} (h:Mod S w0 w) (k:w.grownBy w' row) (hb:∀ b,row=some b->S b\/w0.heap.size<=b):Mod S w0 w':=by
 refine ⟨k.os.trans h.os,k.tape.trans h.tape,k.output.trans h.output,Nat.le_trans h.size k.size,λi hi hs=>?_⟩;rw [k.block i (Nat.lt_of_lt_of_le hi h.size) (λe=>by rcases hb i e.symm with h1 | h1;exact hs h1;omega)];exact h.block i hi hs
theorem Mod.trans' {S':Nat->Prop} {w1 w2 w3:World} (h:Mod S w1 w2) (k:Mod S' w2 w3) (hS:∀ i,S' i->S i\/w1.heap.size<=i):Mod S w1 w3:=by
 refine ⟨k.os.trans h.os,k.tape.trans h.tape,k.output.trans h.output,Nat.le_trans h.size k.size,λi hi hs=>?_⟩;rw [k.block i (Nat.lt_of_lt_of_le hi h.size) (λe=>by rcases hS i e with h1 | h1;exact hs h1;omega)];exact h.block i hi hs
theorem Ext.mod (h:Ext w w') (S:Nat->Prop):Mod S w w':=⟨h.os,h.tape,h.output,h.size,λk hk _=>h.block k hk⟩
theorem bv {ops:Array Oper} {L:List Nat} {i:Nat} {p:Prop} (hf:bJ ops L i=false):bJ ops L i=true->p:=λh=>by rw [hf] at h;cases h
end
end Go.Eng
