/- Runs of quiet operations as one step. Over any program. -/
import Derived.Test.YtljfgmedbjlkaaaGreatEB
import Derived.Test.YtljfgmedbjlkaaaGreatProg
namespace Go.Eng
open Go.RowKit
variable {rr:Option Nat}
abbrev vN (n:Nat):Value:=.int .i64 (n:Int)
abbrev vB (p:Prop) [Decidable p]:Value:=.bool (decide p)
structure Tab where
 fo:List (Nat × Nat × Nat)
 sl:List (Nat × Nat)
 st:List Nat
 na:List Nat
 ag:List (Nat × Nat)
def zj:List (Nat × Nat × Nat)->Nat->Nat->Option Nat
 | [],_,_=>none
 | e::r,s,f=>bif Nat.beq e.1 s then (bif Nat.beq e.2.1 f then some e.2.2 else zj r s f) else zj r s f
def uw:List (Nat × Nat)->Nat->Option Nat
 | [],_=>none
 | e::r,s=>bif Nat.beq e.1 s then some e.2 else uw r s
def rj:List Nat->Nat->Bool
 | [],_=>false
 | e::r,s=>bif Nat.beq e s then true else rj r s
structure TabOK (P:Program) (tb:Tab):Prop where
 fo:∀ e ∈ tb.fo,FA P e.1 e.2.1 e.2.2
 sl:∀ e ∈ tb.sl,∃ t b z,SL P e.1 t e.2 b z
 st:∀ e ∈ tb.st,P.underlying e=some .string
 na:∀ e ∈ tb.na,NA P e
 ag:∀ e ∈ tb.ag,AG P e.1 e.2
theorem EC {l:List (Nat × Nat × Nat)} {s f o:Nat} (h:zj l s f=some o):(s,f,o) ∈ l:=by
 induction l with
 | nil=>cases h
 | cons e r ih=>
  rw [zj] at h
  cases h1:Nat.beq e.1 s with
  | false=>rw [h1] at h;exact List.mem_cons_of_mem _ (ih h)
  | true=>
   rw [h1] at h
   cases h2:Nat.beq e.2.1 f with
   | false=>rw [h2] at h;exact List.mem_cons_of_mem _ (ih h)
   | true=>
    rw [h2] at h
    injection h with h
    rw [← Nat.eq_of_beq_eq_true h1,← Nat.eq_of_beq_eq_true h2,← h]
    exact List.mem_cons_self ..
theorem pH {l:List (Nat × Nat)} {s o:Nat} (h:uw l s=some o):(s,o) ∈ l:=by
 induction l with
 | nil=>cases h
 | cons e r ih=>
  rw [uw] at h
  cases h1:Nat.beq e.1 s with
  | false=>rw [h1] at h;exact List.mem_cons_of_mem _ (ih h)
  | true=>
   rw [h1] at h
   injection h with h
   rw [← Nat.eq_of_beq_eq_true h1,← h]
   exact List.mem_cons_self ..
theorem vH {l:List Nat} {s:Nat} (h:rj l s=true):s ∈ l:=by
 induction l with
 | nil=>cases h
 | cons e r ih=>
  rw [rj] at h
  cases h1:Nat.beq e s with
  | false=>rw [h1] at h;exact List.mem_cons_of_mem _ (ih h)
  | true=>
   rw [← Nat.eq_of_beq_eq_true h1]
   exact List.mem_cons_self ..
inductive Fact where
 | ld (b o:Nat) (vs:List Value)
 | ix (a:Option Addr) (m c i:Nat)
 | add (a b:Nat)
 | sub (a b:Nat)
 | ii
 | nt (p:Prop) (d:Decidable p)
inductive Fc (h:Array Obj):List Fact->Prop
 | z:Fc h []
 | l {b o:Nat} {vs:List Value} {r:List Fact}:Cells h b o vs->Fc h r->Fc h (.ld b o vs::r)
 | x {a:Option Addr} {m c i:Nat} {r:List Fact}:a=some ⟨ab a,ao a,none⟩->i<m->Fc h r->Fc h (.ix a m c i::r)
 | a {a b:Nat} {r:List Fact}:a+b<=9223372036854775807->Fc h r->Fc h (.add a b::r)
 | s {a b:Nat} {r:List Fact}:b<=a->a<=9223372036854775807->Fc h r->Fc h (.sub a b::r)
 | a1 {a:Nat} {r:List Fact}:a+1<=9223372036854775807->Fc h r->Fc h (.add a 1::r)
 | s1 {a:Nat} {r:List Fact}:1<=a->a<=9223372036854775807->Fc h r->Fc h (.sub a 1::r)
 | i {r:List Fact}:Fc h r->Fc h (.ii::r)
 | n (p:Prop) [d:Decidable p] {r:List Fact}:Fc h r->Fc h (.nt p d::r)
theorem Fc.ext {w w':World} {fs:List Fact} (h:Fc w.heap fs) (x:Ext w w'):Fc w'.heap fs:=by
 induction h with
 | z=>exact .z
 | l h _ ih=>exact .l (h.ext x) ih
 | x h h' _ ih=>exact .x h h' ih
 | a h _ ih=>exact .a h ih
 | s h h' _ ih=>exact .s h h' ih
 | a1 h _ ih=>exact .a1 h ih
 | s1 h h' _ ih=>exact .s1 h h' ih
 | i _ ih=>exact .i ih
 | n p _ ih=>exact .n p ih
section
variable {S:Nat->Prop} {w0 w:World} {L:List Ch} {bk T m c:Nat} {cs vs:List Value} {v:Value} {r:List Fact} {α:Type} [Inhabited α] {E:En α} {xs:List α} {a:Option Addr} {h:Array Obj}
theorem Fc.b (H:Hp S w0 w L) (i o:Nat) (e:(L[i]?,cs[o]?)=(some (cB bk T cs),some v)) (hr:Fc w.heap r):Fc w.heap (.ld bk o [v]::r):=by
 injection e with e1 e2;have hb:Blk w.heap bk cs T:=H.at i e1;exact .l (hb.one o e2) hr
theorem Fc.d (H:Hp S w0 w L) (i o k:Nat) (e:(L[i]?,(cs.drop o).take k)=(some (cB bk T cs),vs)) (hr:Fc w.heap r):Fc w.heap (.ld bk o vs::r):=by
 injection e with e1 e2;have hb:Blk w.heap bk cs T:=H.at i e1;subst e2;refine .l (hb.cells o _ λj hj=>?_) hr;rw [← List.getElem?_eq_getElem hj,List.getElem?_take,List.getElem?_drop,if_pos (by rw [List.length_take] at hj;omega)]
theorem Fc.e (hs:Srm E h a m c xs) {i:Nat} (hi:i<m) (hr:Fc h r):Fc h (.ix a m c i::.ld (ab a) (ao a+i * E.k) (E.enc (el xs i))::r):=.x (hs.addr (by omega)) hi (.l (hs.cell hi) hr)
theorem Fc.f (hs:Srm E h a m c xs) (g:Nat) {i:Nat} (hi:i<m) (hv:(E.enc (el xs i))[g]?=some v) (hr:Fc h r):Fc h (.ix a m c i::.ld (ab a) (ao a+i * E.k+g) [v]::r):=.x (hs.addr (by omega)) hi (.l ((hs.cell hi).fld g hv) hr)
end
abbrev xL:=Value × List Fact × List (Value × Value)
def Jf (b:BinOp) (x y:Nat):Option Value:=match b with
 | .lss=>some (.bool (decide (x<y)))
 | .leq=>some (.bool (decide (x<=y)))
 | .gtr=>some (.bool (decide (y<x)))
 | .geq=>some (.bool (decide (y<=x)))
 | .eql=>some (.bool (decide (x=y)))
 | .neq=>some (.bool (decide (x≠y)))
 | _=>none
def rF (b:BinOp) (x y:Int):Option Value:=match b with
 | .lss=>some (.bool (decide (x<y)))
 | .leq=>some (.bool (decide (x<=y)))
 | .gtr=>some (.bool (decide (y<x)))
 | .geq=>some (.bool (decide (y<=x)))
 | .eql=>some (.bool (decide (x=y)))
 | .neq=>some (.bool (decide (x≠y)))
 | _=>none
def O1 (b:BinOp) (x y:ByteArray):Option Value:=match b with
 | .lss=>some (.bool (decide (Op.bytesLess x.toList y.toList=true)))
 | .gtr=>some (.bool (decide ((Op.bytesLess x.toList y.toList || x.toList == y.toList)=false)))
 | .eql=>some (.bool (decide (x.toList=y.toList)))
 | .neq=>some (.bool (decide (x.toList≠y.toList)))
 | _=>none
def zD (ρ:Operand->Value) (b:BinOp) (x y:Operand) (fs:List Fact):Option xL:=match ρ x with
 | .string s=>(match ρ y with | .string t=>(O1 b s t).map λv=>(v,fs,[]) | _=>none)
 | .int .i64 (.ofNat p)=>(match ρ y with | .int .i64 (.ofNat q)=>(Jf b p q).map λv=>(v,fs,[]) | _=>none)
 | .int .u8 (.ofNat p)=>(match ρ y with | .int .u8 (.ofNat q)=>(Jf b p q).map λv=>(v,fs,[]) | _=>none)
 | .int .i32 (.ofNat p)=>(match ρ y with | .int .i32 (.ofNat q)=>(Jf b p q).map λv=>(v,fs,[]) | _=>none)
 | _=>none
def Oe (ρ:Operand->Value) (b:BinOp) (x y:Operand) (fs:List Fact):Option xL:=match ρ x with
 | .int .i64 p=>(match ρ y with | .int .i64 q=>(rF b p q).map λv=>(v,fs,[]) | _=>none)
 | .int .u8 p=>(match ρ y with | .int .u8 q=>(rF b p q).map λv=>(v,fs,[]) | _=>none)
 | .int .i32 p=>(match ρ y with | .int .i32 q=>(rF b p q).map λv=>(v,fs,[]) | _=>none)
 | _=>none
def SB (ρ:Operand->Value) (b:BinOp) (x y:Operand) (fs:List Fact):Option xL:=match b with
 | .add=>(match fs with | .add p q::r=>some (.int .i64 ((p+q:Nat):Int),r,[(ρ x,.int .i64 (p:Int)),(ρ y,.int .i64 (q:Int))]) | _=>none)
 | .sub=>(match fs with | .sub p q::r=>some (.int .i64 ((p-q:Nat):Int),r,[(ρ x,.int .i64 (p:Int)),(ρ y,.int .i64 (q:Int))]) | _=>none)
 | _=>(match fs with | .ii::r=>Oe ρ b x y r | _=>zD ρ b x y fs)
def NM (tb:Tab) (ρ:Operand->Value) (c:Call) (fs:List Fact):Option xL:=match c with
 | ⟨.builtin .len,⟨[x]⟩,⟨[t]⟩⟩=>(match ρ x with
  | .slice _ l _=>(uw tb.sl t).map λ_=>(.int .i64 (l:Int),fs,[])
  | .string s=>bif rj tb.st t then some (.int .i64 (s.size:Int),fs,[]) else none
  | _=>none)
 | _=>none
def R5 (tb:Tab) (ρ:Operand->Value) (t:Nat) (x:Operand) (fs:List Fact):Option xL:=match fs with
 | .ld b o vs::r=>(bif rj tb.na t then (match vs with | [v]=>some (v,r,[(ρ x,.pointer (some ⟨b,o,none⟩))]) | _=>none)
   else (uw tb.ag t).bind λk=>bif Nat.beq k vs.length then some (.agg vs.toArray,r,[(ρ x,.pointer (some ⟨b,o,none⟩))]) else none)
 | _=>none
def step (tb:Tab) (ρ:Operand->Value) (op:Op) (fs:List Fact):Option xL:=match op with
 | .move x=>some (ρ x,fs,[])
 | .assign x=>some (ρ x,fs,[])
 | .extract x i=>(match ρ x with | .tuple vs=>(vs[i]?).map λv=>(v,fs,[]) | _=>none)
 | .pick c a b=>(match ρ c with | .bool true=>some (ρ a,fs,[]) | .bool false=>some (ρ b,fs,[]) | _=>none)
 | .fieldAddr s x f=>(match ρ x with | .pointer (some ⟨b,o,none⟩)=>(zj tb.fo s f).map λk=>(.pointer (some ⟨b,o+k,none⟩),fs,[]) | _=>none)
 | .call c=>NM tb ρ c fs
 | .load t x=>R5 tb ρ t x fs
 | .indexAddr t x y=>(match fs with | .ix a m c i::r=>(uw tb.sl t).map λk=>(.pointer (some ⟨ab a,ao a+i * k,none⟩),r,[(ρ x,.slice a m c),(ρ y,.int .i64 (i:Int))]) | _=>none)
 | .binOp b _ x y _=>SB ρ b x y fs
 | .unOp .not _ x=>(match fs with | .nt p d::r=>some (.bool (@decide (¬ p) instDecidableNot),r,[(ρ x,.bool (@decide p d))]) | _=>none)
 | _=>none
def xk:Op->Bool
 | .load ..=>true
 | _=>false
section
variable {P:Program} {tb:Tab} {n:Nat} {σ:Nat->Value} {w:World} {op:Op} {ty:TypeId} {fs r:List Fact} {v:Value} {cs:List (Value × Value)} {h:Array Obj}
theorem vV {b:BinOp} {k:IntKind} {x y:Operand} {p q:Nat} {t t':TypeId} (hx:ev n σ x= .int k (p:Int)) (hy:ev n σ y= .int k (q:Int)) (e:Jf b p q=some v):Ex P (ev n σ) w (.binOp b t x y t') ty v:=by
 cases b <;> simp only [Jf,reduceCtorEq,Option.some.injEq] at e <;> subst e
 .exact Oj hx hy
 .exact OP hx hy
 .exact PB hx hy
 .exact Pq hx hy
 .exact Au hx hy
 .exact Ow hx hy
theorem xe {b:BinOp} {k:IntKind} {x y:Operand} {p q:Int} {t t':TypeId} (hx:ev n σ x= .int k p) (hy:ev n σ y= .int k q) (e:rF b p q=some v):Ex P (ev n σ) w (.binOp b t x y t') ty v:=by
 cases b <;> simp only [rF,reduceCtorEq,Option.some.injEq] at e <;> subst e
 .exact MX hx hy
 .exact Ie hx hy
 .exact Nn hx hy
 .exact MH hx hy
 .exact Mx hx hy
 .exact Mr hx hy
theorem LW {b:BinOp} {x y:Operand} {p q:ByteArray} {t t':TypeId} (hx:ev n σ x= .string p) (hy:ev n σ y= .string q) (e:O1 b p q=some v):Ex P (ev n σ) w (.binOp b t x y t') ty v:=by
 cases b <;> simp only [O1,reduceCtorEq,Option.some.injEq] at e <;> subst e
 .exact NC hx hy
 .exact Nu hx hy
 .exact PI hx hy
 .exact Oy hx hy
theorem L6 {b:BinOp} {x y:Operand} {t t':TypeId} (e:zD (ev n σ) b x y fs=some (v,r,cs)):r=fs/\∀ w,Ex P (ev n σ) w (.binOp b t x y t') ty v:=by
 unfold zD at e
 split at e
 .rename_i s hs
  split at e
  .rename_i u hu;obtain ⟨z,hz,he⟩:=Option.map_eq_some_iff.1 e;injection he with e1 e2;injection e2 with e2 e3;subst e1;exact ⟨e2.symm,λ_=>LW hs hu hz⟩
  .cases e
 .rename_i p hp
  split at e
  .rename_i q hq;obtain ⟨z,hz,he⟩:=Option.map_eq_some_iff.1 e;injection he with e1 e2;injection e2 with e2 e3;subst e1;exact ⟨e2.symm,λ_=>vV hp hq hz⟩
  .cases e
 .rename_i p hp
  split at e
  .rename_i q hq;obtain ⟨z,hz,he⟩:=Option.map_eq_some_iff.1 e;injection he with e1 e2;injection e2 with e2 e3;subst e1;exact ⟨e2.symm,λ_=>vV hp hq hz⟩
  .cases e
 .rename_i p hp
  split at e
  .rename_i q hq;obtain ⟨z,hz,he⟩:=Option.map_eq_some_iff.1 e;injection he with e1 e2;injection e2 with e2 e3;subst e1;exact ⟨e2.symm,λ_=>vV hp hq hz⟩
  .cases e
 .cases e
theorem JQ {b:BinOp} {x y:Operand} {t t':TypeId} (e:Oe (ev n σ) b x y fs=some (v,r,cs)):r=fs/\∀ w,Ex P (ev n σ) w (.binOp b t x y t') ty v:=by
 unfold Oe at e
 split at e
 .rename_i p hp
  split at e
  .rename_i q hq;obtain ⟨z,hz,he⟩:=Option.map_eq_some_iff.1 e;injection he with e1 e2;injection e2 with e2 e3;subst e1;exact ⟨e2.symm,λ_=>xe hp hq hz⟩
  .cases e
 .rename_i p hp
  split at e
  .rename_i q hq;obtain ⟨z,hz,he⟩:=Option.map_eq_some_iff.1 e;injection he with e1 e2;injection e2 with e2 e3;subst e1;exact ⟨e2.symm,λ_=>xe hp hq hz⟩
  .cases e
 .rename_i p hp
  split at e
  .rename_i q hq;obtain ⟨z,hz,he⟩:=Option.map_eq_some_iff.1 e;injection he with e1 e2;injection e2 with e2 e3;subst e1;exact ⟨e2.symm,λ_=>xe hp hq hz⟩
  .cases e
 .cases e
theorem Pw {b:BinOp} {x y:Operand} {t t':TypeId} (e:SB (ev n σ) b x y fs=some (v,r,cs)) (he:∀ c ∈ cs,c.1=c.2) (hf:Fc h fs):Fc h r/\∀ w,Ex P (ev n σ) w (.binOp b t x y t') ty v:=by
 unfold SB at e
 split at e
 .split at e
  .rename_i p q r';injection e with e;injection e with e1 e2;injection e2 with e2 e3;subst e1 e2 e3
   cases hf with
   | a h1 h2=>exact ⟨h2,λw=>IY (he _ (List.mem_cons_self ..)) (he _ (List.mem_cons_of_mem _ (List.mem_cons_self ..))) h1⟩
   | a1 h1 h2=>exact ⟨h2,λw=>IY (he _ (List.mem_cons_self ..)) (he _ (List.mem_cons_of_mem _ (List.mem_cons_self ..))) h1⟩
  .cases e
 .split at e
  .rename_i p q r';injection e with e;injection e with e1 e2;injection e2 with e2 e3;subst e1 e2 e3
   cases hf with
   | s h1 h1' h2=>exact ⟨h2,λw=>Gl (he _ (List.mem_cons_self ..)) (he _ (List.mem_cons_of_mem _ (List.mem_cons_self ..))) h1 h1'⟩
   | s1 h1 h1' h2=>exact ⟨h2,λw=>Gl (he _ (List.mem_cons_self ..)) (he _ (List.mem_cons_of_mem _ (List.mem_cons_self ..))) h1 h1'⟩
  .cases e
 .split at e
  .cases hf with
   | i h2=>
    have:=JQ (P:=P) (ty:=ty) (t:=t) (t':=t') e
    exact ⟨by rw [this.1];exact h2,this.2⟩
  .have:=L6 (P:=P) (ty:=ty) (t:=t) (t':=t') e;exact ⟨by rw [this.1];exact hf,this.2⟩
theorem L7 (T:TabOK P tb) {c:Call} (e:NM tb (ev n σ) c fs=some (v,r,cs)):r=fs/\∀ w,Ex P (ev n σ) w (.call c) ty v:=by
 unfold NM at e
 split at e
 .rename_i x t
  split at e
  .rename_i p l cc hx;obtain ⟨k,hk,he⟩:=Option.map_eq_some_iff.1 e;injection he with e1 e2;injection e2 with e2 e3;obtain ⟨el',b,z,hS⟩:=T.sl _ (pH hk);subst e1;exact ⟨e2.symm,λ_=>qD rfl hS.und hx⟩
  .rename_i s hx
   cases hl:rj tb.st t with
   | false=>rw [hl] at e;cases e
   | true=>
    rw [hl] at e
    injection e with e
    injection e with e1 e2
    injection e2 with e2 e3
    subst e1
    exact ⟨e2.symm,λ_=>GM rfl (T.st _ (vH hl)) hx⟩
  .cases e
 .cases e
theorem Pz (T:TabOK P tb) {t:TypeId} {x:Operand} (e:R5 tb (ev n σ) t x fs=some (v,r,cs)) (he:∀ c ∈ cs,c.1=c.2) (hf:Fc h fs):Fc h r/\∀ w:World,w.heap=h->Ex P (ev n σ) w (.load t x) ty v:=by
 unfold R5 at e
 split at e
 .rename_i b o vs r'
  cases hf with
  | l h1 h2=>
   cases hl:rj tb.na t with
   | true=>
    rw [hl] at e
    dsimp only [cond_true] at e
    split at e
    .injection e with e
     injection e with e1 e2
     injection e2 with e2 e3
     subst e1 e2 e3
     exact ⟨h2,λw hw=>qE (T.na _ (vH hl)) (he _ (List.mem_cons_self ..)) (by rw [hw];exact h1)⟩
    .cases e
   | false=>
    rw [hl] at e
    dsimp only [cond_false] at e
    obtain ⟨k,hk,e⟩:=Option.bind_eq_some_iff.1 e
    cases hb:Nat.beq k vs.length with
    | false=>rw [hb] at e;cases e
    | true=>
     rw [hb] at e
     injection e with e
     injection e with e1 e2
     injection e2 with e2 e3
     subst e1 e2 e3
     have hA:=T.ag _ (pH hk)
     rw [Nat.eq_of_beq_eq_true hb] at hA
     exact ⟨h2,λw hw=>qI vs hA (he _ (List.mem_cons_self ..)) (by rw [hw];exact h1)⟩
 .cases e
theorem wW (T:TabOK P tb) (e:step tb (ev n σ) op fs=some (v,r,cs)) (he:∀ c ∈ cs,c.1=c.2) (hf:Fc h fs):Fc h r/\(xk op=false->∀ w,Ex P (ev n σ) w op ty v)/\∀ w:World,w.heap=h->Ex P (ev n σ) w op ty v:=by
 have one:(r=fs/\∀ w,Ex P (ev n σ) w op ty v)->Fc h r/\(xk op=false->∀ w,Ex P (ev n σ) w op ty v)/\∀ w:World,w.heap=h->Ex P (ev n σ) w op ty v:=λk=>⟨by rw [k.1];exact hf,λ_=>k.2,λw _=>k.2 w⟩;have two:(Fc h r/\∀ w,Ex P (ev n σ) w op ty v)->Fc h r/\(xk op=false->∀ w,Ex P (ev n σ) w op ty v)/\∀ w:World,w.heap=h->Ex P (ev n σ) w op ty v:=λk=>⟨k.1,λ_=>k.2,λw _=>k.2 w⟩;unfold step at e
 split at e
 .injection e with e;injection e with e1 e2;injection e2 with e2 e3;subst e1;exact one ⟨e2.symm,λw=>ai rfl⟩
 .injection e with e;injection e with e1 e2;injection e2 with e2 e3;subst e1;exact one ⟨e2.symm,λw=>tN rfl⟩
 .split at e
  .rename_i vs hx;obtain ⟨z,hz,e⟩:=Option.map_eq_some_iff.1 e;injection e with e1 e2;injection e2 with e2 e3;subst e1;exact one ⟨e2.symm,λw=>oQ hx hz⟩
  .cases e
 .split at e
  .rename_i hx;injection e with e;injection e with e1 e2;injection e2 with e2 e3;subst e1;exact one ⟨e2.symm,λw=>vY hx rfl⟩
  .rename_i hx;injection e with e;injection e with e1 e2;injection e2 with e2 e3;subst e1;exact one ⟨e2.symm,λw=>xw hx rfl⟩
  .cases e
 .split at e
  .rename_i b o hx;obtain ⟨k,hk,e⟩:=Option.map_eq_some_iff.1 e;injection e with e1 e2;injection e2 with e2 e3;subst e1;exact one ⟨e2.symm,λw=>DB (T.fo _ (EC hk)) hx⟩
  .cases e
 .exact one (L7 (ty:=ty) T e)
 .have:=Pz (ty:=ty) T e he hf;exact ⟨this.1,λh=>(by cases h),this.2⟩
 .split at e
  .rename_i a m c i r';obtain ⟨k,hk,e⟩:=Option.map_eq_some_iff.1 e;injection e with e1 e2;injection e2 with e2 e3;subst e1 e2 e3
   cases hf with
   | x h1 h2 h3=>
    obtain ⟨el',b,z,hS⟩:=T.sl _ (pH hk)
    refine two ⟨h3,λw=>?_⟩
    have hx:=he _ (List.mem_cons_self ..)
    have hy:=he _ (List.mem_cons_of_mem _ (List.mem_cons_self ..))
    dsimp only at hx hy
    rw [h1] at hx
    exact Df hS hx hy h2
  .cases e
 .exact two (Pw e he hf)
 .split at e
  .rename_i p d r';injection e with e;injection e with e1 e2;injection e2 with e2 e3;subst e1 e2 e3
   cases hf with
   | n _ h2=>
    refine two ⟨h2,λw=>?_⟩
    have e:(!@decide p d)=@decide (¬ p) instDecidableNot:=by cases d <;> rfl
    rw [← e]
    exact bF (he _ (List.mem_cons_self ..))
  .cases e
 .cases e
end
def wy (n:Nat) (ops:Array Oper) (σ:Nat->Value) (j:Nat) (b:Bool):Option Bool:=match (ops[j]?).bind (·.dst) with
 | some t=>bif Nat.blt t n then (match ev n σ (.tmp t) with
  | .bool true=>some b
  | .bool false=>some (!b)
  | .tuple ⟨[]⟩=>some false
  | _=>none) else none
 | none=>none
abbrev Rn:=(Nat->Value) × List Fact × List (Value × Value)
def KY (tb:Tab) (n:Nat) (σ:Nat->Value) (d:Nat) (op:Op) (fs:List Fact) (k:(Nat->Value)->List Fact->Option Rn):Option Rn:=
 (step tb (ev n σ) op fs).bind λs=>(k (gT σ d s.1) s.2.1).map λq=>(q.1,q.2.1,s.2.2++q.2.2)
def lq (tb:Tab) (n:Nat) (ops:Array Oper):List Oper->(Nat->Value)->List Fact->Option Rn
 | [],σ,fs=>some (σ,fs,[])
 | ⟨some d,op,_,_,_,none⟩::l,σ,fs=>KY tb n σ d op fs (lq tb n ops l)
 | ⟨some d,op,_,_,_,some g⟩::l,σ,fs=>(wy n ops σ g.1 g.2).bind λc=>bif c then KY tb n σ d op fs (lq tb n ops l) else lq tb n ops l (gT σ d undef) fs
 | _,_,_=>none
section
variable {P:Program} {tb:Tab} {n:Nat} {σ σ':Nat->Value} {w:World} {fs fs':List Fact} {cs:List (Value × Value)} {ops:Array Oper} {Q:Exit->Act->World->Prop} {ds:List Deferred} {rest:List Oper}
theorem qP {cs:List (Value × Value)} (h:cs.map (·.1)=cs.map (·.2)):∀ c ∈ cs,c.1=c.2:=by
 induction cs with
 | nil=>intro c hc;cases hc
 | cons x cs ih=>
  rw [List.map_cons,List.map_cons] at h
  injection h with h1 h2
  intro c hc
  rcases List.mem_cons.1 hc with rfl | hc
  .exact h1
  .exact ih h2 c hc
theorem uD {j:Nat} {b c:Bool} (h:wy n ops σ j b=some c) :
  ∃ t,(ops[j]?).bind (·.dst)=some t/\t<n/\((c=true/\ev n σ (.tmp t)= .bool b)\/(c=false/\(ev n σ (.tmp t)=undef\/∃ b',ev n σ (.tmp t)= .bool b'/\(b' == b)=false))):=by
 unfold wy at h
 split at h
 .rename_i t ht;refine ⟨t,ht,?_⟩
  cases hb:Nat.blt t n with
  | false=>rw [hb] at h;cases h
  | true=>
   rw [hb] at h
   have hlt:t<n:=by rwa [Nat.blt_eq] at hb
   refine ⟨hlt,?_⟩
   dsimp only [cond_true] at h
   split at h
   .rename_i hv
    injection h with h
    subst h
    cases b
    .exact .inr ⟨rfl,.inr ⟨true,hv,rfl⟩⟩
    .exact .inl ⟨rfl,hv⟩
   .rename_i hv
    injection h with h
    subst h
    cases b
    .exact .inl ⟨rfl,hv⟩
    .exact .inr ⟨rfl,.inr ⟨false,hv,rfl⟩⟩
   .rename_i hv
    injection h with h
    subst h
    exact .inr ⟨rfl,.inl hv⟩
   .cases h
 .cases h
theorem jM (T:TabOK P tb):∀ (l:List Oper) {σ σ':Nat->Value} {fs fs':List Fact} {cs:List (Value × Value)},lq tb n ops l σ fs=some (σ',fs',cs)->(∀ c ∈ cs,c.1=c.2)->Fc w.heap fs->WL rr P ops Q rest (F n σ' ds) w->WL rr P ops Q (l++rest) (F n σ ds) w
 | [],σ,σ',fs,fs',cs,h,he,hf,hk=>by
  rw [lq] at h;injection h with h;injection h with h1 h2;subst h1;exact hk
 | ⟨none,op,ty,pos,af,g⟩::l,σ,σ',fs,fs',cs,h,_,_,_=>by
  unfold lq at h;cases h
 | ⟨some d,op,ty,pos,af,none⟩::l,σ,σ',fs,fs',cs,h,he,hf,hk=>by
  rw [lq] at h;unfold KY at h;obtain ⟨s,hs,h⟩:=Option.bind_eq_some_iff.1 h;obtain ⟨q,hq,h⟩:=Option.map_eq_some_iff.1 h;injection h with h1 h2;injection h2 with h2 h3;subst h1 h2 h3;obtain ⟨v,r,c1⟩:=s;have k:=wW (ty:=ty) T hs (λc hc=>he c (List.mem_append_left _ hc)) hf;exact IU (k.2.2 w rfl) (jM T l hq (λc hc=>he c (List.mem_append_right _ hc)) k.1 hk)
 | ⟨some d,op,ty,pos,af,some (j,b)⟩::l,σ,σ',fs,fs',cs,h,he,hf,hk=>by
  rw [lq] at h;obtain ⟨c,hc,h⟩:=Option.bind_eq_some_iff.1 h;obtain ⟨t,ht,hlt,h1 | h1⟩:=uD hc
  .rw [h1.1] at h;dsimp only [cond_true] at h;unfold KY at h;obtain ⟨s,hs,h⟩:=Option.bind_eq_some_iff.1 h;obtain ⟨q,hq,h⟩:=Option.map_eq_some_iff.1 h;injection h with e1 e2;injection e2 with e2 e3;subst e1 e2 e3;obtain ⟨v,r,c1⟩:=s;have k:=wW (ty:=ty) T hs (λc hc=>he c (List.mem_append_left _ hc)) hf;exact st_gq j t ht h1.2 hlt (IU (k.2.2 w rfl) (jM T l hq (λc hc=>he c (List.mem_append_right _ hc)) k.1 hk))
  .rw [h1.1] at h;dsimp only [cond_false] at h
   rcases h1.2 with h2 | ⟨b',h2,h3⟩
   .exact Q8 j t ht h2 hlt (jM T l h he hf hk)
   .exact Qn j t ht h2 hlt h3 (jM T l h he hf hk)
theorem SV (T:TabOK P tb) (k:Nat) {l:List Oper} (hf:Fc w.heap fs) (h:lq tb n ops (l.take k) σ fs=some (σ',[],cs)) (he:cs.map (·.1)=cs.map (·.2)) (K:WL rr P ops Q (l.drop k) (F n σ' ds) w):WL rr P ops Q l (F n σ ds) w:=by
 have:=jM T (l.take k) h (qP he) hf K;rwa [List.take_append_drop] at this
theorem SY (T:TabOK P tb) {id:Nat} {l:List Oper} (hf:Fc w.heap fs) (h:lq tb n l.toArray l σ fs=some (σ',[],cs)) (he:cs.map (·.1)=cs.map (·.2)) (K:Q .normal (F n σ' ds) w):(Code.region id l.toArray false).wq rr P Q (F n σ ds) w:=
 region (by have:=jM (rr:=rr) (Q:=Q) (rest:=[]) T l h (qP he) hf (nl K);rwa [List.append_nil] at this)
theorem QY (T:TabOK P tb) {id:Nat} {l:List Oper} {y:Code} (hf:Fc w.heap fs) (h:lq tb n l.toArray l σ fs=some (σ',[],cs)) (he:cs.map (·.1)=cs.map (·.2)) (K:y.wq rr P Q (F n σ' ds) w):(Code.seq (Code.region id l.toArray false) y).wq rr P Q (F n σ ds) w:=
 sr λ_ k=>by have:=jM (rr:=rr) (rest:=[]) T l h (qP he) hf (nl (k _ _ K));rwa [List.append_nil] at this
end
abbrev Rs:=(Nat->Value) × Sched × List Fact × List (Value × Value)
def sF (tb:Tab) (n:Nat) (ops:Array Oper) (qs L:List Nat):Nat->Sched->(Nat->Value)->List Fact->Option Rs
 | 0,s,σ,fs=>some (σ,s,fs,[])
 | k+1,.one i s,σ,fs=>bif qs.contains i then (match ops[i]? with
  | some ⟨some d,op,_,_,_,g⟩=>
   (bif xk op then (bif L.contains i then some () else none) else some ()).bind λ_=>
   (match g with | none=>some true | some g=>wy n ops σ g.1 g.2).bind λc=>
   bif c then (step tb (ev n σ) op fs).bind λ(z:xL)=>(sF tb n ops qs L k s (gT σ d z.1) z.2.1).map λ(q:Rs)=>(q.1,q.2.1,q.2.2.1,z.2.2++q.2.2.2)
   else sF tb n ops qs L k s (gT σ d undef) fs
  | _=>none) else none
 | _,_,_,_=>none
def uf:Nat->Nat->Sched
 | _,0=>.done
 | i,k+1=>.one i (uf (i+1) k)
def jB:Nat->List Oper->List Nat
 | _,[]=>[]
 | i,o::l=>bif xk o.op then i::jB (i+1) l else jB (i+1) l
section
variable {P:Program} {tb:Tab} {n:Nat} {σ σ':Nat->Value} {w w1:World} {fs fs':List Fact} {cs:List (Value × Value)} {ops:Array Oper} {Q:Exit->Act->World->Prop} {ds:List Deferred} {qs L:List Nat} {S:World->Prop} {s s':Sched}
theorem qU (T:TabOK P tb) (hS:S w1):∀ (k:Nat) {s s':Sched} {σ σ':Nat->Value} {fs fs':List Fact} {cs:List (Value × Value)},sF tb n ops qs L k s σ fs=some (σ',s',fs',cs)->(∀ c ∈ cs,c.1=c.2)->(∀ w',S w'->Fc w'.heap fs)->gQ P ops Q S L qs s' (F n σ' ds) w->gQ P ops Q S L qs s (F n σ ds) w
 | 0,s,s',σ,σ',fs,fs',cs,h,_,_,hk=>by
  rw [sF] at h;injection h with h;injection h with h1 h2;injection h2 with h2 h3;subst h1 h2;exact hk
 | k+1,s,s',σ,σ',fs,fs',cs,h,he,hf,hk=>by
  cases s with
  | one i s2=>
   rw [sF] at h
   cases hq:qs.contains i with
   | false=>rw [hq] at h;cases h
   | true=>
    rw [hq] at h
    dsimp only [cond_true] at h
    split at h
    .rename_i d op ty pos af g hi
     obtain ⟨_,hl,h⟩:=Option.bind_eq_some_iff.1 h
     have hL:xk op=true->L.contains i=true:=λe=>by
      rw [e] at hl
      cases hh:L.contains i with
      | true=>rfl
      | false=>rw [hh] at hl;cases hl
     have uh:∀ {q:(Nat->Value) × Sched × List Fact × List (Value × Value)} {z:xL},step tb (ev n σ) op fs=some z->sF tb n ops qs L k s2 (gT σ d z.1) z.2.1=some q->(q.1,q.2.1,q.2.2.1,z.2.2++q.2.2.2)=(σ',s',fs',cs)->
       (xk op=false->∀ w,Ex P (ev n σ) w op ty z.1)/\(∀ w,S w->Ex P (ev n σ) w op ty z.1)/\gQ P ops Q S L qs s2 (F n (gT σ d z.1) ds) w:=λ{q z} hz hr e=>by
      injection e with e1 e2;injection e2 with e2 e3;injection e3 with e3 e4;subst e1 e2 e3 e4;obtain ⟨v,r,c1⟩:=z;have K:=λw' (hw:S w')=>wW (P:=P) (ty:=ty) T hz (λc hc=>he c (List.mem_append_left _ hc)) (hf w' hw);exact ⟨(K _ hS).2.1,λw' hw=>(K w' hw).2.2 w' rfl,qU T hS k hr (λc hc=>he c (List.mem_append_right _ hc)) (λw' hw=>(K w' hw).1) hk⟩
     cases g with
     | none=>
      obtain ⟨c,hc,h⟩:=Option.bind_eq_some_iff.1 h
      injection hc with hc
      subst hc
      dsimp only [cond_true] at h
      obtain ⟨z,hz,h⟩:=Option.bind_eq_some_iff.1 h
      obtain ⟨q,hr,h⟩:=Option.map_eq_some_iff.1 h
      obtain ⟨k1,k2,k3⟩:=uh hz hr h
      cases hld:xk op with
      | false=>exact d_q hi hq (k1 hld) k3
      | true=>exact Te hi hq (hL hld) k2 k3
     | some g=>
      obtain ⟨c,hc,h⟩:=Option.bind_eq_some_iff.1 h
      obtain ⟨t,ht,hlt,h1 | h1⟩:=uD hc
      .rw [h1.1] at h
       dsimp only [cond_true] at h
       obtain ⟨z,hz,h⟩:=Option.bind_eq_some_iff.1 h
       obtain ⟨q,hr,h⟩:=Option.map_eq_some_iff.1 h
       obtain ⟨k1,k2,k3⟩:=uh hz hr h
       cases hld:xk op with
       | false=>exact d_gq hi hq ht h1.2 hlt (k1 hld) k3
       | true=>exact RL hi hq (hL hld) ht h1.2 hlt k2 k3
      .rw [h1.1] at h
       dsimp only [cond_false] at h
       rcases h1.2 with h2 | ⟨b',h2,h3⟩
       .exact RZ hi hq ht h2 hlt (qU T hS k h he hf hk)
       .exact R4 hi hq ht h2 hlt h3 (qU T hS k h he hf hk)
    .cases h
  | _=>unfold sF at h;cases h
theorem SF (T:TabOK P tb) (k:Nat) (hf:Fc w1.heap fs) (h:sF tb n ops qs L k s σ fs=some (σ',s',[],cs)) (he:cs.map (·.1)=cs.map (·.2)) (K:gQ P ops Q (λw'=>Ext w1 w') L qs s' (F n σ' ds) w):gQ P ops Q (λw'=>Ext w1 w') L qs s (F n σ ds) w:=
 qU T (S:=λw'=>Ext w1 w') (Below.refl _ _) k h (qP he) (λ_ x=>hf.ext x) K
theorem Sl (T:TabOK P tb) (hm:P.follows .mixedOrders=true) {id:Nat} {l:List Oper} {y:Code} (hf:Fc w.heap fs) (h:sF tb n l.toArray (List.range l.length) (jB 0 l) l.length (uf 0 l.length) σ fs=some (σ',.done,[],cs)) (he:cs.map (·.1)=cs.map (·.2))
  (hfit:(uf 0 l.length).fits l.toArray (jB 0 l) (List.range l.length)=true) (K:∀ w1,Ext w w1->y.wq rr P Q (F n σ' ds) w1):(Code.seq (Code.region id l.toArray true) y).wq rr P Q (F n σ ds) w:=
 wpIn_seq (kT (jB 0 l) (List.range l.length) (uf 0 l.length) hm hfit λw1 x _=>SF T l.length (hf.ext x) h he (d_done (K w1 x)))
end
section
variable {P:Program} {Q:Exit->Act->World->Prop} {w:World} {a:Act}
theorem seqJ {x y:Code} (h:∀ Q':Exit->Act->World->Prop,(∀ {a w},y.wq rr P Q a w->Q' .normal a w)->(∀ {a w},Q .ret a w->Q' .ret a w)->(∀ {id a w},Q (.exit id) a w->Q' (.exit id) a w)->x.wq rr P Q' a w):(Code.seq x y).wq rr P Q a w:=
 Si λQ' h1 h2 h3=>h Q' (λ{a w}=>h1 a w) (λ{a w}=>h2 a w) λ{id a w}=>h3 id a w
theorem blockJ {id:Nat} {c:Code} (h:∀ Q':Exit->Act->World->Prop,(∀ {a w},Q .normal a w->Q' .normal a w)->(∀ {a w},Q .ret a w->Q' .ret a w)->(∀ {id' a w},(id' == id)=false->Q (.exit id') a w->Q' (.exit id') a w)->(∀ {a w},Q .normal a w->Q' (.exit id) a w)->c.wq rr P Q' a w):(Code.block id c).wq rr P Q a w:=
 OL λQ' h1 h2 h3 h4=>h Q' (λ{a w}=>h1 a w) (λ{a w}=>h2 a w) (λ{id a w}=>h3 id a w) λ{a w}=>h4 a w
theorem sj {id:Nat} {l:List Oper} {y:Code} (h:∀ Q',(∀ {a w},y.wq rr P Q a w->Q' .normal a w)->WL rr P l.toArray Q' l a w):(Code.seq (Code.region id l.toArray false) y).wq rr P Q a w:=
 sr λQ' k=>h Q' λ{a w}=>k a w
def Sz:Op->Bool
 | .load ..=>true
 | .lookup ..=>true
 | _=>false
def uS:Nat->List Oper->List Nat
 | _,[]=>[]
 | i,o::l=>bif Sz o.op then i::uS (i+1) l else uS (i+1) l
def EA (es:List Nat):Nat->Nat->List Nat
 | _,0=>[]
 | i,k+1=>bif es.contains i then EA es (i+1) k else i::EA es (i+1) k
theorem RF (es:List Nat) {id:Nat} {l:List Oper} (hm:P.follows .mixedOrders=true) (hfit:(uf 0 l.length).fits l.toArray (uS 0 l) (EA es 0 l.length)=true)
  (h:∀ w1,Ext w w1->Ext w1 w1->gQ P l.toArray (NP Q) (λw'=>Ext w1 w') (uS 0 l) (EA es 0 l.length) (uf 0 l.length) a w1):(Code.region id l.toArray true).wq rr P Q a w:=
 kT _ _ _ hm hfit λw1 x _=>h w1 x (Below.refl _ _)
end
end Go.Eng
namespace Go.Proofs.YtljfgmedbjlkaaaGreat
open Go.RowKit Go.Eng
def Tryz.tb:Tab:=⟨[(32,0,0),(32,1,1),(35,0,0),(35,1,1),(37,0,0),(37,1,1),(37,2,3),(37,3,5),(43,0,0),(43,1,1),(43,2,2),(60,0,0),(60,1,2),(71,0,0),(71,1,1),(71,2,2),(71,3,3),(77,0,0),(77,1,1),(77,2,2),(83,0,0),(83,1,1),(83,2,2),(85,0,0),(85,1,1),(100,0,0),(100,1,1),(100,2,2),(100,3,3),(100,4,4),(100,5,5),(100,6,6),(110,0,0),(110,1,1),(110,2,2),(122,1,1),(152,2,2),(220,1,1),(227,0,0),(227,1,1),(227,2,2),(229,0,0),(229,1,1),(247,0,0),(247,1,3)],[(23,7),(30,2),(39,3),(40,2),(41,3),(50,1),(68,4),(95,7),(105,3),(108,1),(120,1),(148,2),(157,2),(222,3),(244,4)],[9],[3,4,5,9,23,30,33,39,40,41,50,69,75,108,120,143,162,214],[(32,2),(35,2),(37,7),(43,3),(60,3),(71,4),(83,3),(85,2),(100,7),(110,3),(152,3),(207,7),(227,3)]⟩
theorem T.slx23:∃ e b z,SL Tryz.prog 23 e 7 b z:=⟨37,96,(.agg #[vN 0,.string ByteArray.empty,.slice none 0 0,.bool false,.string ByteArray.empty,.bool false,.string ByteArray.empty]),aY Tryz.underlying23 (by kernel_rfl) rfl (by decide)⟩
theorem T.slx30:∃ e b z,SL Tryz.prog 30 e 2 b z:=⟨35,24,(.agg #[.bool false,.string ByteArray.empty]),aY Tryz.underlying30 (by kernel_rfl) rfl (by decide)⟩
theorem T.slx39:∃ e b z,SL Tryz.prog 39 e 3 b z:=⟨83,40,(.agg #[.string ByteArray.empty,vN 0,.string ByteArray.empty]),aY Tryz.underlying39 (by kernel_rfl) rfl (by decide)⟩
theorem T.slx40:∃ e b z,SL Tryz.prog 40 e 2 b z:=⟨85,24,(.agg #[.string ByteArray.empty,vN 0]),aY Tryz.underlying40 (by kernel_rfl) rfl (by decide)⟩
theorem T.slx41:∃ e b z,SL Tryz.prog 41 e 3 b z:=⟨60,64,(.agg #[.string ByteArray.empty,.slice none 0 0,.slice none 0 0]),aY Tryz.underlying41 (by kernel_rfl) rfl (by decide)⟩
theorem T.slx50:∃ e b z,SL Tryz.prog 50 e 1 b z:=⟨9,16,(.string ByteArray.empty),aY Tryz.underlying50 (by kernel_rfl) rfl (by decide)⟩
theorem T.slx68:∃ e b z,SL Tryz.prog 68 e 4 b z:=⟨71,40,(.agg #[vN 0,.string ByteArray.empty,vN 0,vN 0]),aY Tryz.underlying68 (by kernel_rfl) rfl (by decide)⟩
theorem T.slx95:∃ e b z,SL Tryz.prog 95 e 7 b z:=⟨100,64,(.agg #[.string ByteArray.empty,vN 0,.bool false,vN 0,vN 0,vN 0,vN 0]),aY Tryz.underlying95 (by kernel_rfl) rfl (by decide)⟩
theorem T.slx105:∃ e b z,SL Tryz.prog 105 e 3 b z:=⟨110,48,(.agg #[.string ByteArray.empty,vN 0,.slice none 0 0]),aY Tryz.underlying105 (by kernel_rfl) rfl (by decide)⟩
theorem T.slx108:∃ e b z,SL Tryz.prog 108 e 1 b z:=⟨50,24,(.slice none 0 0),aY Tryz.underlying108 (by kernel_rfl) rfl (by decide)⟩
theorem T.slx120:∃ e b z,SL Tryz.prog 120 e 1 b z:=⟨5,1,(.int .u8 ((0:Nat):Int)),aY Tryz.underlying120 (by kernel_rfl) rfl (by decide)⟩
theorem T.slx148:∃ e b z,SL Tryz.prog 148 e 2 b z:=⟨220,24,(.agg #[vN 0,.string ByteArray.empty]),aY Tryz.underlying148 (by kernel_rfl) rfl (by decide)⟩
theorem T.slx157:∃ e b z,SL Tryz.prog 157 e 2 b z:=⟨229,24,(.agg #[.string ByteArray.empty,vN 0]),aY Tryz.underlying157 (by kernel_rfl) rfl (by decide)⟩
theorem T.slx222:∃ e b z,SL Tryz.prog 222 e 3 b z:=⟨227,40,(.agg #[.string ByteArray.empty,.string ByteArray.empty,.bool false]),aY Tryz.underlying222 (by kernel_rfl) rfl (by decide)⟩
theorem T.slx244:∃ e b z,SL Tryz.prog 244 e 4 b z:=⟨247,40,(.agg #[vN 0,vN 0,.string ByteArray.empty,vN 0]),aY Tryz.underlying244 (by kernel_rfl) rfl (by decide)⟩
theorem Tryz.tbok:TabOK Tryz.prog Tryz.tb:=by
 unfold Tryz.tb;exact ⟨List.forall_mem_cons.2 ⟨λ_ _=>by kernel_rfl,List.forall_mem_cons.2 ⟨λ_ _=>by kernel_rfl,List.forall_mem_cons.2 ⟨λ_ _=>by kernel_rfl,List.forall_mem_cons.2 ⟨λ_ _=>by kernel_rfl,List.forall_mem_cons.2 ⟨λ_ _=>by kernel_rfl,List.forall_mem_cons.2 ⟨λ_ _=>by kernel_rfl,List.forall_mem_cons.2 ⟨λ_ _=>by kernel_rfl,List.forall_mem_cons.2 ⟨λ_ _=>by kernel_rfl,List.forall_mem_cons.2 ⟨λ_ _=>by kernel_rfl,List.forall_mem_cons.2 ⟨λ_ _=>by kernel_rfl,List.forall_mem_cons.2 ⟨λ_ _=>by kernel_rfl,List.forall_mem_cons.2 ⟨λ_ _=>by kernel_rfl,List.forall_mem_cons.2 ⟨λ_ _=>by kernel_rfl,List.forall_mem_cons.2 ⟨λ_ _=>by kernel_rfl,List.forall_mem_cons.2 ⟨λ_ _=>by kernel_rfl,List.forall_mem_cons.2 ⟨λ_ _=>by kernel_rfl,List.forall_mem_cons.2 ⟨λ_ _=>by kernel_rfl,List.forall_mem_cons.2 ⟨λ_ _=>by kernel_rfl,List.forall_mem_cons.2 ⟨λ_ _=>by kernel_rfl,List.forall_mem_cons.2 ⟨λ_ _=>by kernel_rfl,List.forall_mem_cons.2 ⟨λ_ _=>by kernel_rfl,List.forall_mem_cons.2 ⟨λ_ _=>by kernel_rfl,List.forall_mem_cons.2 ⟨λ_ _=>by kernel_rfl,List.forall_mem_cons.2 ⟨λ_ _=>by kernel_rfl,List.forall_mem_cons.2 ⟨λ_ _=>by kernel_rfl,List.forall_mem_cons.2 ⟨λ_ _=>by kernel_rfl,List.forall_mem_cons.2 ⟨λ_ _=>by kernel_rfl,List.forall_mem_cons.2 ⟨λ_ _=>by kernel_rfl,List.forall_mem_cons.2 ⟨λ_ _=>by kernel_rfl,List.forall_mem_cons.2 ⟨λ_ _=>by kernel_rfl,List.forall_mem_cons.2 ⟨λ_ _=>by kernel_rfl,List.forall_mem_cons.2 ⟨λ_ _=>by kernel_rfl,List.forall_mem_cons.2 ⟨λ_ _=>by kernel_rfl,List.forall_mem_cons.2 ⟨λ_ _=>by kernel_rfl,List.forall_mem_cons.2 ⟨λ_ _=>by kernel_rfl,List.forall_mem_cons.2 ⟨λ_ _=>by kernel_rfl,List.forall_mem_cons.2 ⟨λ_ _=>by kernel_rfl,List.forall_mem_cons.2 ⟨λ_ _=>by kernel_rfl,List.forall_mem_cons.2 ⟨λ_ _=>by kernel_rfl,List.forall_mem_cons.2 ⟨λ_ _=>by kernel_rfl,List.forall_mem_cons.2 ⟨λ_ _=>by kernel_rfl,List.forall_mem_cons.2 ⟨λ_ _=>by kernel_rfl,List.forall_mem_cons.2 ⟨λ_ _=>by kernel_rfl,List.forall_mem_cons.2 ⟨λ_ _=>by kernel_rfl,List.forall_mem_cons.2 ⟨λ_ _=>by kernel_rfl,List.forall_mem_nil _⟩⟩⟩⟩⟩⟩⟩⟩⟩⟩⟩⟩⟩⟩⟩⟩⟩⟩⟩⟩⟩⟩⟩⟩⟩⟩⟩⟩⟩⟩⟩⟩⟩⟩⟩⟩⟩⟩⟩⟩⟩⟩⟩⟩⟩,List.forall_mem_cons.2 ⟨T.slx23,List.forall_mem_cons.2 ⟨T.slx30,List.forall_mem_cons.2 ⟨T.slx39,List.forall_mem_cons.2 ⟨T.slx40,List.forall_mem_cons.2 ⟨T.slx41,List.forall_mem_cons.2 ⟨T.slx50,List.forall_mem_cons.2 ⟨T.slx68,List.forall_mem_cons.2 ⟨T.slx95,List.forall_mem_cons.2 ⟨T.slx105,List.forall_mem_cons.2 ⟨T.slx108,List.forall_mem_cons.2 ⟨T.slx120,List.forall_mem_cons.2 ⟨T.slx148,List.forall_mem_cons.2 ⟨T.slx157,List.forall_mem_cons.2 ⟨T.slx222,List.forall_mem_cons.2 ⟨T.slx244,List.forall_mem_nil _⟩⟩⟩⟩⟩⟩⟩⟩⟩⟩⟩⟩⟩⟩⟩,List.forall_mem_cons.2 ⟨Tryz.underlying9,List.forall_mem_nil _⟩,List.forall_mem_cons.2 ⟨λ_=>by kernel_rfl,List.forall_mem_cons.2 ⟨λ_=>by kernel_rfl,List.forall_mem_cons.2 ⟨λ_=>by kernel_rfl,List.forall_mem_cons.2 ⟨λ_=>by kernel_rfl,List.forall_mem_cons.2 ⟨λ_=>by kernel_rfl,List.forall_mem_cons.2 ⟨λ_=>by kernel_rfl,List.forall_mem_cons.2 ⟨λ_=>by kernel_rfl,List.forall_mem_cons.2 ⟨λ_=>by kernel_rfl,List.forall_mem_cons.2 ⟨λ_=>by kernel_rfl,List.forall_mem_cons.2 ⟨λ_=>by kernel_rfl,List.forall_mem_cons.2 ⟨λ_=>by kernel_rfl,List.forall_mem_cons.2 ⟨λ_=>by kernel_rfl,List.forall_mem_cons.2 ⟨λ_=>by kernel_rfl,List.forall_mem_cons.2 ⟨λ_=>by kernel_rfl,List.forall_mem_cons.2 ⟨λ_=>by kernel_rfl,List.forall_mem_cons.2 ⟨λ_=>by kernel_rfl,List.forall_mem_cons.2 ⟨λ_=>by kernel_rfl,List.forall_mem_cons.2 ⟨λ_=>by kernel_rfl,List.forall_mem_nil _⟩⟩⟩⟩⟩⟩⟩⟩⟩⟩⟩⟩⟩⟩⟩⟩⟩⟩,List.forall_mem_cons.2 ⟨λ_=>⟨by kernel_rfl,by kernel_rfl⟩,List.forall_mem_cons.2 ⟨λ_=>⟨by kernel_rfl,by kernel_rfl⟩,List.forall_mem_cons.2 ⟨λ_=>⟨by kernel_rfl,by kernel_rfl⟩,List.forall_mem_cons.2 ⟨λ_=>⟨by kernel_rfl,by kernel_rfl⟩,List.forall_mem_cons.2 ⟨λ_=>⟨by kernel_rfl,by kernel_rfl⟩,List.forall_mem_cons.2 ⟨λ_=>⟨by kernel_rfl,by kernel_rfl⟩,List.forall_mem_cons.2 ⟨λ_=>⟨by kernel_rfl,by kernel_rfl⟩,List.forall_mem_cons.2 ⟨λ_=>⟨by kernel_rfl,by kernel_rfl⟩,List.forall_mem_cons.2 ⟨λ_=>⟨by kernel_rfl,by kernel_rfl⟩,List.forall_mem_cons.2 ⟨λ_=>⟨by kernel_rfl,by kernel_rfl⟩,List.forall_mem_cons.2 ⟨λ_=>⟨by kernel_rfl,by kernel_rfl⟩,List.forall_mem_cons.2 ⟨λ_=>⟨by kernel_rfl,by kernel_rfl⟩,List.forall_mem_cons.2 ⟨λ_=>⟨by kernel_rfl,by kernel_rfl⟩,List.forall_mem_nil _⟩⟩⟩⟩⟩⟩⟩⟩⟩⟩⟩⟩⟩⟩
section
variable {rr:Option Nat} {n:Nat} {σ σ':Nat->Value} {w w1:World} {fs:List Fact} {cs:List (Value × Value)} {ops:Array Oper} {Q:Exit->Act->World->Prop} {ds:List Deferred} {qs L:List Nat} {s s':Sched} {id:Nat} {l:List Oper} {y:Code}
theorem qR (k:Nat) (hf:Fc w.heap fs) (h:lq Tryz.tb n ops (l.take k) σ fs=some (σ',[],cs)) (he:cs.map (·.1)=cs.map (·.2)) (K:WL rr Tryz.prog ops Q (l.drop k) (F n σ' ds) w):WL rr Tryz.prog ops Q l (F n σ ds) w:=SV Tryz.tbok k hf h he K
theorem rL (hf:Fc w.heap fs) (h:lq Tryz.tb n l.toArray l σ fs=some (σ',[],cs)) (he:cs.map (·.1)=cs.map (·.2)) (K:Q .normal (F n σ' ds) w):(Code.region id l.toArray false).wq rr Tryz.prog Q (F n σ ds) w:=SY Tryz.tbok hf h he K
theorem sL (hf:Fc w.heap fs) (h:lq Tryz.tb n l.toArray l σ fs=some (σ',[],cs)) (he:cs.map (·.1)=cs.map (·.2)) (K:y.wq rr Tryz.prog Q (F n σ' ds) w):(Code.seq (Code.region id l.toArray false) y).wq rr Tryz.prog Q (F n σ ds) w:=QY Tryz.tbok hf h he K
theorem dW (k:Nat) (hf:Fc w1.heap fs) (h:sF Tryz.tb n ops qs L k s σ fs=some (σ',s',[],cs)) (he:cs.map (·.1)=cs.map (·.2)) (K:gQ Tryz.prog ops Q (λw'=>Ext w1 w') L qs s' (F n σ' ds) w):gQ Tryz.prog ops Q (λw'=>Ext w1 w') L qs s (F n σ ds) w:=SF Tryz.tbok k hf h he K
theorem sD (hf:Fc w.heap fs) (h:sF Tryz.tb n l.toArray (List.range l.length) (jB 0 l) l.length (uf 0 l.length) σ fs=some (σ',.done,[],cs)) (he:cs.map (·.1)=cs.map (·.2)) (hfit:(uf 0 l.length).fits l.toArray (jB 0 l) (List.range l.length)=true) (K:∀ w1,Ext w w1->y.wq rr Tryz.prog Q (F n σ' ds) w1):(Code.seq (Code.region id l.toArray true) y).wq rr Tryz.prog Q (F n σ ds) w:=Sl Tryz.tbok (by kernel_rfl) hf h he hfit K
theorem rgS (es:List Nat) {a:Act} (hfit:(uf 0 l.length).fits l.toArray (uS 0 l) (EA es 0 l.length)=true) (h:∀ w1,Ext w w1->Ext w1 w1->gQ Tryz.prog l.toArray (NP Q) (λw'=>Ext w1 w') (uS 0 l) (EA es 0 l.length) (uf 0 l.length) a w1):(Code.region id l.toArray true).wq rr Tryz.prog Q a w:=RF es (by kernel_rfl) hfit h
theorem qZ (k:Nat) (h:lq Tryz.tb n ops (l.take k) σ []=some (σ',[],[])) (K:WL rr Tryz.prog ops Q (l.drop k) (F n σ' ds) w):WL rr Tryz.prog ops Q l (F n σ ds) w:=SV Tryz.tbok k .z h rfl K
theorem rZ (h:lq Tryz.tb n l.toArray l σ []=some (σ',[],[])) (K:Q .normal (F n σ' ds) w):(Code.region id l.toArray false).wq rr Tryz.prog Q (F n σ ds) w:=SY Tryz.tbok .z h rfl K
theorem sZ (h:lq Tryz.tb n l.toArray l σ []=some (σ',[],[])) (K:y.wq rr Tryz.prog Q (F n σ' ds) w):(Code.seq (Code.region id l.toArray false) y).wq rr Tryz.prog Q (F n σ ds) w:=QY Tryz.tbok .z h rfl K
end
end Go.Proofs.YtljfgmedbjlkaaaGreat
