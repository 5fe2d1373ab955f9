/- The engine's second form: a call's own memory as a list of pieces that lie apart. Over any program. -/
import Derived.Test.YtljfgmedbjlkaaaGreatSli
import Ieee.Arith
namespace Go.Eng
open Go.RowKit
structure Ch where
 foot:Nat->Prop
 says:Array Obj->Prop
 keep:∀ {h h':Array Obj},says h->(∀ b,foot b->b<h.size->h'[b]?=h[b]?)->says h'
structure Hp (S:Nat->Prop) (w0 w:World) (L:List Ch):Prop where
 fr:Mod S w0 w
 says:∀ c ∈ L,c.says w.heap
 own:∀ c ∈ L,∀ b,c.foot b->b<w.heap.size/\(S b\/w0.heap.size<=b)
 apart:L.Pairwise λc d=>∀ b,c.foot b->¬ d.foot b
section
variable {S:Nat->Prop} {w0 w w':World} {L M:List Ch} {c d e:Ch} {i j:Nat}
theorem Hp.start (S:Nat->Prop) (w:World):Hp S w w []:=⟨Mod.refl _ _,by simp,by simp,List.Pairwise.nil⟩
theorem Hp.start1 {c:Ch} (hs:c.says w.heap) (hf:∀ b,c.foot b->b<w.heap.size):Hp c.foot w w [c]:=
 ⟨Mod.refl _ _,λx hx=>by rw [List.mem_singleton] at hx;subst hx;exact hs,λx hx b hb=>by rw [List.mem_singleton] at hx;subst hx;exact ⟨hf b hb,.inl hb⟩,List.pairwise_singleton _ _⟩
theorem Hp.at (H:Hp S w0 w L) (i:Nat) (hi:L[i]?=some c):c.says w.heap:=H.says c (List.mem_of_getElem? hi)
theorem Hp.lt (H:Hp S w0 w L) (i:Nat) (hi:L[i]?=some c) {b:Nat} (hb:c.foot b):b<w.heap.size:=(H.own c (List.mem_of_getElem? hi) b hb).1
theorem mU (h:L.Pairwise λc d=>∀ b,c.foot b->¬ d.foot b) (hi:L[i]?=some c) (hj:L[j]?=some d) (hij:i≠j) (b:Nat) (hb:c.foot b):¬ d.foot b:=by
 obtain ⟨hil,rfl⟩:=List.getElem?_eq_some_iff.1 hi;obtain ⟨hjl,rfl⟩:=List.getElem?_eq_some_iff.1 hj;rw [List.pairwise_iff_getElem] at h
 rcases Nat.lt_or_gt_of_ne hij with h1 | h1
 .exact h i j hil hjl h1 b hb
 .exact λhd=>h j i hjl hil h1 b hd hb
theorem Hp.ne (H:Hp S w0 w L) (i j:Nat) (hi:L[i]?=some c) (hj:L[j]?=some d) (hij:i≠j) (b:Nat) (hb:c.foot b):¬ d.foot b:=mU H.apart hi hj hij b hb
theorem Hp.size (H:Hp S w0 w L):w0.heap.size<=w.heap.size:=H.fr.size
theorem Hp.upd (H:Hp S w0 w L) (i:Nat) (hi:L[i]?=some c) {S':Nat->Prop} (hM:Mod S' w w') (hS:∀ b,S' b->c.foot b) (hd:d.says w'.heap) (hf:∀ b,d.foot b->b<w'.heap.size/\(c.foot b\/w.heap.size<=b)):Hp S w0 w' (L.set i d):=by
 have hmem:=List.mem_of_getElem? hi;obtain ⟨hil,hci⟩:=List.getElem?_eq_some_iff.1 hi;refine ⟨H.fr.trans' hM λb hb=>(H.own c hmem b (hS b hb)).2,λx hx=>?_,λx hx b hb=>?_,?_⟩
 .obtain ⟨k,hk,rfl⟩:=List.getElem_of_mem hx;rw [List.length_set] at hk;rw [List.getElem_set]
  split
  .exact hd
  .rename_i hne;refine (L[k]).keep (H.says _ (List.getElem_mem hk)) λb hb hlt=>hM.block b hlt λhs=>?_;exact H.ne k i (List.getElem?_eq_getElem hk) hi (Ne.symm hne) b hb (hS b hs)
 .obtain ⟨k,hk,rfl⟩:=List.getElem_of_mem hx;rw [List.length_set] at hk;rw [List.getElem_set] at hb
  split at hb
  .obtain ⟨h1,h2⟩:=hf b hb;refine ⟨h1,?_⟩
   rcases h2 with h2 | h2
   .exact (H.own c hmem b h2).2
   .exact .inr (Nat.le_trans H.size h2)
  .obtain ⟨h1,h2⟩:=H.own _ (List.getElem_mem hk) b hb;exact ⟨Nat.lt_of_lt_of_le h1 hM.size,h2⟩
 .rw [List.pairwise_iff_getElem];intro p q hp hq hpq b hb;rw [List.length_set] at hp hq;rw [List.getElem_set] at hb ⊢
  have old:∀ k,(hk:k<L.length)->k≠i->∀ b,d.foot b->¬ (L[k]).foot b:=λk hk hne b hb hk'=>by
   obtain ⟨_,h2⟩:=hf b hb
   rcases h2 with h2 | h2
   .exact H.ne k i (List.getElem?_eq_getElem hk) hi hne b hk' h2
   .have:=(H.own _ (List.getElem_mem hk) b hk').1;omega
  split at hb
  .rename_i e1;rw [if_neg (by omega)];exact old q hq (by omega) b hb
  .split
   .exact λh=>old p hp (by omega) b h hb
   .exact H.ne p q (List.getElem?_eq_getElem hp) (List.getElem?_eq_getElem hq) (by omega) b hb
theorem Hp.ext (H:Hp S w0 w L) (x:Ext w w'):Hp S w0 w' L:=
 ⟨H.fr.ext x,λc hc=>c.keep (H.says c hc) λb _ hlt=>x.block b hlt,λc hc b hb=>⟨Nat.lt_of_lt_of_le (H.own c hc b hb).1 x.size,(H.own c hc b hb).2⟩,H.apart⟩
theorem Hp.app (H:Hp S w0 w L) {S':Nat->Prop} (hS:∀ b,¬ S' b) (K:Hp S' w w' M):Hp S w0 w' (M++L):=by
 have x:Ext w w':=⟨K.fr.os,K.fr.tape,K.fr.output,K.fr.size,λb hb=>K.fr.block b hb (hS b)⟩;have H':=H.ext x;refine ⟨H'.fr,λc hc=>?_,λc hc b hb=>?_,?_⟩
 .rcases List.mem_append.1 hc with h | h
  .exact K.says c h
  .exact H'.says c h
 .rcases List.mem_append.1 hc with h | h
  .obtain ⟨h1,h2⟩:=K.own c h b hb;exact ⟨h1,.inr (Nat.le_trans H.size (h2.resolve_left (hS b)))⟩
  .exact H'.own c h b hb
 .refine List.pairwise_append.2 ⟨K.apart,H.apart,λc hc d hd b hb hb'=>?_⟩;have h1:=(K.own c hc b hb).2.resolve_left (hS b);have h2:=(H.own d hd b hb').1;omega
theorem Hp.call (H:Hp S w0 w L) (i:Nat) (hi:L[i]?=some c) (K:Hp c.foot w w' (d::M)):Hp S w0 w' (M++L.set i d):=by
 have hd:=K.own d (List.mem_cons_self ..);have H':=H.upd i hi K.fr (λb hb=>hb) (K.says d (List.mem_cons_self ..)) λb hb=>⟨(hd b hb).1,(hd b hb).2⟩;have hKa:=List.pairwise_cons.1 K.apart;obtain ⟨hil,hci⟩:=List.getElem?_eq_some_iff.1 hi;refine ⟨H'.fr,λx hx=>?_,λx hx b hb=>?_,?_⟩
 .rcases List.mem_append.1 hx with h | h
  .exact K.says x (List.mem_cons_of_mem _ h)
  .exact H'.says x h
 .rcases List.mem_append.1 hx with h | h
  .obtain ⟨h1,h2⟩:=K.own x (List.mem_cons_of_mem _ h) b hb;refine ⟨h1,?_⟩
   rcases h2 with h2 | h2
   .exact (H.own c (List.mem_of_getElem? hi) b h2).2
   .exact .inr (Nat.le_trans H.size h2)
  .exact H'.own x h b hb
 .refine List.pairwise_append.2 ⟨hKa.2,H'.apart,λx hx y hy b hb hb'=>?_⟩;obtain ⟨k,hk,rfl⟩:=List.getElem_of_mem hy;rw [List.length_set] at hk;rw [List.getElem_set] at hb'
  split at hb'
  .exact hKa.1 x hx b hb' hb
  .rename_i hne
   rcases (K.own x (List.mem_cons_of_mem _ hx) b hb).2 with h2 | h2
   .exact H.ne k i (List.getElem?_eq_getElem hk) hi (Ne.symm hne) b hb' h2
   .have:=(H.own _ (List.getElem_mem hk) b hb').1;omega
theorem Hp.conv (H:Hp S w0 w L) (i:Nat) (hi:L[i]?=some c) (hd:c.says w.heap->d.says w.heap) (hf:∀ b,d.foot b->c.foot b):Hp S w0 w (L.set i d):=
 H.upd i hi (S':=λ_=>False) (Mod.refl _ _) (λ_ h=>h.elim) (hd (H.at i hi)) λb hb=>⟨H.lt i hi (hf b hb),.inl (hf b hb)⟩
theorem Hp.join (H:Hp S w0 w (c::L)) (i:Nat) (hi:L[i]?=some d) (he:c.says w.heap->d.says w.heap->e.says w.heap) (hf:∀ b,e.foot b->c.foot b\/d.foot b):Hp S w0 w (L.set i e):=by
 have hil:=(List.getElem?_eq_some_iff.1 hi).1;have hdm:=List.mem_of_getElem? hi;have hca:=List.pairwise_cons.1 H.apart;refine ⟨H.fr,λx hx=>?_,λx hx b hb=>?_,?_⟩
 .rcases List.mem_or_eq_of_mem_set hx with h | rfl
  .exact H.says x (List.mem_cons_of_mem _ h)
  .exact he (H.says c (List.mem_cons_self ..)) (H.says d (List.mem_cons_of_mem _ hdm))
 .rcases List.mem_or_eq_of_mem_set hx with h | rfl
  .exact H.own x (List.mem_cons_of_mem _ h) b hb
  .rcases hf b hb with h | h
   .exact H.own c (List.mem_cons_self ..) b h
   .exact H.own d (List.mem_cons_of_mem _ hdm) b h
 .have key:∀ k (hk:k<L.length),k≠i->∀ b,e.foot b->¬ (L[k]).foot b:=λk hk hne b hb hb'=>by
   rcases hf b hb with h | h
   .exact hca.1 _ (List.getElem_mem hk) b h hb'
   .exact mU hca.2 (List.getElem?_eq_getElem hk) hi hne b hb' h
  rw [List.pairwise_iff_getElem];intro p q hp hq hpq b hb;rw [List.length_set] at hp hq;rw [List.getElem_set] at hb ⊢
  split at hb
  .rw [if_neg (by omega)];exact key q hq (by omega) b hb
  .split
   .exact λh=>key p hp (by omega) b h hb
   .exact mU hca.2 (List.getElem?_eq_getElem hp) (List.getElem?_eq_getElem hq) (by omega) b hb
theorem Hp.sub (H:Hp S w0 w L) {M:List Ch} (h:M.Sublist L):Hp S w0 w M:=⟨H.fr,λc hc=>H.says c (h.subset hc),λc hc=>H.own c (h.subset hc),H.apart.sublist h⟩
theorem Hp.perm (H:Hp S w0 w L) {M:List Ch} (h:L.Perm M):Hp S w0 w M:=⟨H.fr,λc hc=>H.says c (h.mem_iff.2 hc),λc hc=>H.own c (h.mem_iff.2 hc),h.pairwise H.apart λh b hb hb'=>h b hb' hb⟩
theorem Hp.tail (H:Hp S w0 w (c::L)):Hp S w0 w L:=H.sub (List.sublist_cons_self _ _)
theorem Hp.noS {S:Nat->Prop} (H:Hp S w0 w L) (hS:∀ b,¬ S b):Ext w0 w:=⟨H.fr.os,H.fr.tape,H.fr.output,H.fr.size,λb hb=>H.fr.block b hb (hS b)⟩
end
abbrev No:Nat->Prop:=λ_=>False
theorem Hp.x {w0 w:World} {L:List Ch} (H:Hp No w0 w L):Ext w0 w:=H.noS λ_ h=>h
theorem Hp.app' {S:Nat->Prop} {w0 w w':World} {L M:List Ch} (H:Hp S w0 w L) (K:Hp No w w' M):Hp S w0 w' (M++L):=H.app (λ_ h=>h) K
structure En (α:Type) where
 enc:α->List Value
 k:Nat
 len:∀ x,(enc x).length=k
 pos:0<k
 ones:∀ x,(enc x).all (·.oneCell')=true
theorem En.flat_ones {α:Type} (E:En α) (xs:List α):(flat E.enc xs).all (·.oneCell')=true:=by
 induction xs with
 | nil=>rfl
 | cons x xs ih=>simp only [flat,List.flatMap_cons,List.all_append] at *;rw [ih,E.ones];rfl
def ab (a:Option Addr):Nat:=(a.map (·.block)).getD 0
def ao (a:Option Addr):Nat:=(a.map (·.off)).getD 0
section
variable {α:Type} {E:En α} {h:Array Obj} {a:Option Addr} {c i:Nat} {xs:List α}
end
def cB (b:Nat) (T:TypeId) (cs:List Value):Ch:=⟨λz=>z=b,λh=>Blk h b cs T,λhs hk=>hs.keep (hk _ rfl hs.lt)⟩
theorem Hp.al {S:Nat->Prop} {w0 w w':World} {L:List Ch} {cs:List Value} {T:TypeId} (H:Hp S w0 w L) (h:Al w w' (.cells cs.toArray T)):Hp S w0 w' (cB w.heap.size T cs::L):=by
 refine Hp.app' H (M:=[cB w.heap.size T cs]) ⟨h.ext.mod _,λc hc=>?_,λc hc b hb=>?_,List.pairwise_singleton _ _⟩
 .rw [List.mem_singleton] at hc;subst hc;exact h.new
 .rw [List.mem_singleton] at hc;subst hc;have hb:b=w.heap.size:=hb;subst hb;exact ⟨by rw [h.size];omega,.inr (Nat.le_refl _)⟩
theorem Hp.pt {S:Nat->Prop} {w0 w w':World} {L:List Ch} {b:Nat} {cs cs':List Value} {T:TypeId} (H:Hp S w0 w L) (i:Nat) (hi:L[i]?=some (cB b T cs)) (h:Pt w w' b (.cells cs'.toArray T (0,0))):Hp S w0 w' (L.set i (cB b T cs')):=
 H.upd i hi (S':=λz=>z=b) ((Mod.refl _ w).pt h (.inl rfl)) (λ_ hb=>hb) h.new λz hz=>⟨by rw [h.size];exact H.lt i hi hz,.inl hz⟩
end Go.Eng
namespace Go.Flt
open Ieee
abbrev D:Format:=Ieee.double
end Go.Flt
namespace Go.Eng
open Go.RowKit Go.Flt
section
variable {P:Program} {n:Nat} {σ:Nat->Value} {w:World} {ty t t':TypeId} {x y z:Operand}
def ch (s:ByteArray) (i:Nat):Nat:=(s.get! i).toNat
theorem PW (s:ByteArray) (i:Nat):ch s i<256:=(s.get! i).toNat_lt
theorem get?_ch {s:ByteArray} {i:Nat} (h:i<s.size):s[i]?=some (s.get! i):=by
 rw [getElem?_pos s i h]
 congr 1
 cases s with
 | mk d=>
  have hd:i<d.size:=h
  show d[i]=d[i]!
  rw [getElem!_pos d i hd]
theorem bg {s:ByteArray} {i:Nat} {k:IntKind} (hT:P.underlying t=some .string) (hx:ev n σ x= .string s) (hy:ev n σ y= .int k (i:Int)) (h:i<s.size):Ex P (ev n σ) w (.index t x y) ty (.int .u8 ((ch s i:Nat):Int)):=by
 intro _ _ _ _;have h1:=get?_ch h;simp [execOp,hx,hy,Instr.index,asIntOf,run_underlying hT,h1,ch]
theorem bM {a b:ByteArray} (hx:ev n σ x= .string a) (hy:ev n σ y= .string b) (h:a.size+b.size<=9223372036854775807):Ex P (ev n σ) w (.binOp .add t x y t') ty (.string (a++b)):=by
 intro _ _ _ _;have h1:¬ (((a.size+b.size:Nat):Int) > IntKind.i64.max):=by have:IntKind.i64.max=9223372036854775807:=(by decide);rw [this];omega
 have h2:¬ (IntKind.i64.max<((a.size:Int)+(b.size:Int))):=by rw [← Int.natCast_add];exact h1
 simp [execOp,hx,hy,eqGuard,binOp,Op.stringOp];omega
theorem iO {k:IntKind} {m:Nat} (h:m<128):k.wrap (m:Int)=m:=by
 cases k <;> simp [IntKind.wrap,IntKind.bits,IntKind.signed] <;> omega
theorem GV {k:IntKind} (hk:k= .i64\/k= .u64) {m:Nat} (h:m<=9223372036854775807):k.wrap (m:Int)=m:=by
 rcases hk with rfl | rfl <;> simp [IntKind.wrap,IntKind.bits,IntKind.signed] <;> omega
theorem NT {k k':IntKind} {a:Nat} (hT:P.underlying t'=some (.int k')) {src:TypeDesc} (hS:P.underlying t=some src) (hx:ev n σ x= .int k a) (hr:a<128\/((k'= .i64\/k'= .u64)/\a<=9223372036854775807)):Ex P (ev n σ) w (.convert t t' x) ty (.int k' (a:Int)):=by
 intro _ _ _ _;have:k'.wrap (a:Int)=a:=hr.elim iO λh=>GV h.1 h.2;simp [execOp,hx,convert,run_underlying hT,run_underlying hS,Conv.intToInt,this]
def iR (a:Int):Nat:=FloatKind.f64.nearest a
theorem J6 {k:IntKind} {a:Int} (hT:P.underlying t'=some (.float .f64)) {src:TypeDesc} (hS:P.underlying t=some src) (hx:ev n σ x= .int k a):Ex P (ev n σ) w (.convert t t' x) ty (.float .f64 (iR a)):=by
 intro _ _ _ _;simp [execOp,hx,convert,run_underlying hT,run_underlying hS,Conv.intToFloat,iR]
theorem NH {a b:Nat} (hx:ev n σ x= .float .f64 a) (hy:ev n σ y= .float .f64 b):Ex P (ev n σ) w (.binOp .gtr t x y t') ty (.bool (decide (Flt.D.order a b=some .gt))):=by
 intro _ _ _ _;have h':FloatKind.f64.format.order a b=Flt.D.order a b:=rfl;simp [execOp,hx,hy,eqGuard,binOp,Op.floatCmp,h'];generalize Flt.D.order a b=o
 cases o with
 | none=>rfl
 | some c=>cases c <;> rfl
theorem Pe {a b:Nat} (hx:ev n σ x= .float .f64 a) (hy:ev n σ y= .float .f64 b):Ex P (ev n σ) w (.binOp .geq t x y t') ty (.bool (decide (Flt.D.order a b=some .gt\/Flt.D.order a b=some .eq))):=by
 intro _ _ _ _;have h':FloatKind.f64.format.order a b=Flt.D.order a b:=rfl;simp [execOp,hx,hy,eqGuard,binOp,Op.floatCmp,h'];generalize Flt.D.order a b=o
 cases o with
 | none=>rfl
 | some c=>cases c <;> rfl
theorem OW {a b:Nat} (hx:ev n σ x= .float .f64 a) (hy:ev n σ y= .float .f64 b):Ex P (ev n σ) w (.binOp .leq t x y t') ty (.bool (decide (Flt.D.order a b=some .lt\/Flt.D.order a b=some .eq))):=by
 intro _ _ _ _;have h':FloatKind.f64.format.order a b=Flt.D.order a b:=rfl;simp [execOp,hx,hy,eqGuard,binOp,Op.floatCmp,h'];generalize Flt.D.order a b=o
 cases o with
 | none=>rfl
 | some c=>cases c <;> rfl
theorem NE {a b:Nat} (hx:ev n σ x= .float .f64 a) (hy:ev n σ y= .float .f64 b):Ex P (ev n σ) w (.binOp .lss t x y t') ty (.bool (decide (Flt.D.order a b=some .lt))):=by
 intro _ _ _ _;have h':FloatKind.f64.format.order a b=Flt.D.order a b:=rfl;simp [execOp,hx,hy,eqGuard,binOp,Op.floatCmp,h'];generalize Flt.D.order a b=o
 cases o with
 | none=>rfl
 | some c=>cases c <;> rfl
theorem Gf {s:ByteArray} {K:Value->World->Prop} (hT:P.underlying t=some .string) (hx:ev n σ x= .string s) (k:∀ w',Al w w' (.stringIter s 0)->K (.pointer (some ⟨w.heap.size,0,none⟩)) w'):fU P (ev n σ) w (.range t x) ty K:=by
 refine ⟨_,_,k (w.alloc (.stringIter s 0)) ⟨rfl⟩,.inl λ_ _ _ _=>?_⟩;simp [execOp,hx,Instr.range,run_underlying hT,newObj,Sem.run]
theorem BN {s:ByteArray} {b pos:Nat} {K:Value->World->Prop} (hx:ev n σ x= .pointer (some ⟨b,0,none⟩)) (hb:w.heap[b]?=some (.stringIter s pos))
  (k0:¬ pos<s.size->K (.tuple #[.bool false]) w) (k1:pos<s.size->∀ w',Pt w w' b (.stringIter s (pos+(Utf8.decode s pos).2))->K (.tuple #[.bool true,.int .i64 (pos:Int),.int .i32 ((Utf8.decode s pos).1:Int)]) w'):fU P (ev n σ) w (.next x true) ty K:=by
 have hlt:b<w.heap.size:=(Array.getElem?_eq_some_iff.1 hb).1
 by_cases h:pos<s.size
 .refine ⟨_,_,k1 h { w with heap:=w.heap.setIfInBounds b (.stringIter s (pos+(Utf8.decode s pos).2)) } ⟨hlt,rfl⟩,.inl λ_ _ _ _=>?_⟩;simp [execOp,hx,Instr.next,getObj,setObj,hb,h,goInt,Sem.run]
 .refine ⟨_,_,k0 h,.inl λ_ _ _ _=>?_⟩;simp [execOp,hx,Instr.next,getObj,hb,h,Sem.run]
end
end Go.Eng
namespace Go.Eng
open Go.RowKit
variable {rr:Option Nat}
class SLi (P:Program) (t:TypeId) (e:outParam TypeId) (k bb:outParam Nat):Prop where
 h:∃ z,SL P t e k bb z
class UNi (P:Program) (t:TypeId) (d:outParam TypeDesc):Prop where
 h:P.underlying t=some d
class NAi (P:Program) (t:TypeId):Prop where
 h:NA P t
class AGi (P:Program) (t:TypeId) (k:outParam Nat):Prop where
 h:AG P t k
class SZi (P:Program) (t:TypeId) (k:outParam Nat):Prop where
 h:SZ P t k
class FAi (P:Program) (s:TypeId) (f:Nat) (o:outParam Nat):Prop where
 h:FA P s f o
class ZVi (P:Program) (t:TypeId) (z:outParam Value):Prop where
 h:ZV P t z
class CFi (P:Program) (f:FuncId):Prop where
 h:CF P f
section
variable {P:Program} {n:Nat} {σ:Nat->Value} {w:World} {ty t t':TypeId} {x y:Operand}
theorem mv:Ex P (ev n σ) w (.move x) ty (ev n σ x):=ai rfl
theorem asg:Ex P (ev n σ) w (.assign x) ty (ev n σ x):=tN rfl
theorem wj {c a b:Operand} (hc:ev n σ c= .bool true):Ex P (ev n σ) w (.pick c a b) ty (ev n σ a):=vY hc rfl
theorem LV {c a b:Operand} (hc:ev n σ c= .bool false):Ex P (ev n σ) w (.pick c a b) ty (ev n σ b):=xw hc rfl
theorem Tu {vs:Array Value} {i:Nat} {v:Value} (hx:ev n σ x= .tuple vs) (hi:vs[i]?=some v):Ex P (ev n σ) w (.extract x i) ty v:=oQ hx hi
theorem len {ts:Array TypeId} {p:Option Addr} {l c:Nat} {e:TypeId} (hx:ev n σ x= .slice p l c) (h0:ts[0]?=some t) [u:UNi P t (.slice e)]:Ex P (ev n σ) w (.call { callee:=.builtin .len,args:=#[x],argTypes:=ts }) ty (.int .i64 (l:Int)):=qD h0 u.h hx
theorem ld {b o:Nat} {v:Value} [h:NAi P t] (hx:ev n σ x= .pointer (some ⟨b,o,none⟩)) (hc:Cells w.heap b o [v]):Ex P (ev n σ) w (.load t x) ty v:=qE h.h hx hc
end
def Srm {α:Type} (E:En α) (h:Array Obj) (a:Option Addr) (m c:Nat) (xs:List α):Prop:=Src h (.slice a m c) m E.k (flat E.enc xs)
section
variable {P:Program} {n:Nat} {σ:Nat->Value} {w w':World} {ty t t':TypeId} {x y:Operand} {α:Type} {E:En α} {h:Array Obj} {a:Option Addr} {m c i:Nat} {xs:List α}
theorem Srm.len (hs:Srm E h a m c xs):xs.length=m:=by
 have h1:=hs.1;rw [aI E.len] at h1;exact Nat.eq_of_mul_eq_mul_right E.pos h1
theorem Srm.cap (hs:Srm E h a m c xs):m<=c/\c<=9223372036854775807:=(Src.capl hs).2
theorem Srm.addr (hs:Srm E h a m c xs) (hm:0<m):a=some ⟨ab a,ao a,none⟩:=by
 obtain ⟨b,o,rfl,_⟩:=Src.at hs hm;rfl
theorem Srm.cell [Inhabited α] (hs:Srm E h a m c xs) (hi:i<m):Cells h (ab a) (ao a+i * E.k) (E.enc (el xs i)):=by
 have hl:=hs.len;obtain ⟨b,o,rfl,hc⟩:=Src.at hs (by omega);exact hc.elem E.len (by omega)
theorem Srm.ext (hs:Srm E w.heap a m c xs) (hx:Ext w w'):Srm E w'.heap a m c xs:=Src.ext hs hx
theorem Srm.e {L:List Ch} (hs:Srm E w.heap a m c xs) (H:Hp No w w' L):Srm E w'.heap a m c xs:=Src.ext hs H.x
end
section
variable {S:Nat->Prop} {w0 w:World} {L:List Ch} {α:Type} {T:TypeId} {E:En α} {a:Option Addr} {m c b o:Nat} {xs:List α} {cs:List Value} {v:Value}
theorem Hp.ld (H:Hp S w0 w L) (i:Nat) (hi:L[i]?=some (cB b T cs)) (o:Nat) (hv:cs[o]?=some v):Cells w.heap b o [v]:=Blk.one (H.at i hi) o hv
theorem Hp.lds (H:Hp S w0 w L) (i:Nat) (hi:L[i]?=some (cB b T cs)) (o:Nat) (vs:List Value) (hv:(cs.drop o).take vs.length=vs):Cells w.heap b o vs:=Blk.cells (H.at i hi) o vs (aN hv)
end
section
variable {P:Program} {n:Nat} {σ:Nat->Value} {w w0:World} {ty t t':TypeId} {x y:Operand} {S:Nat->Prop} {L:List Ch} {K:Value->World->Prop}
theorem Eal {z:Value} (H:Hp S w0 w L) (hz:ZV P t z) (k:∀ b w',Hp S w0 w' (cB b t z.cells.toList::L)->Ext w w'->K (.pointer (some ⟨b,0,none⟩)) w'):fU P (ev n σ) w (.alloc t) ty K:=
 Du hz λw' hA=>k _ w' (H.al (by simpa using hA)) hA.ext
theorem Ebx {v:Value} (H:Hp S w0 w L) (hx:ev n σ x=v) (k:∀ b w',Hp S w0 w' (cB b t v.cells.toList::L)->Ext w w'->K (.pointer (some ⟨b,0,none⟩)) w'):fU P (ev n σ) w (.box t x) ty K:=
 MK hx λw' hA=>k _ w' (H.al (by simpa using hA)) hA.ext
theorem Ebs {ln:Nat} {parts:Array (Nat × Operand)} {e:TypeId} {cs:List Value} (H:Hp S w0 w L) (hrun:∀ w,(Instr.buildSlice t ln (parts.map λ(i,x)=>(i,ev n σ x))).run P w= .ok (.slice (some ⟨w.heap.size,0,none⟩) ln ln) (w.alloc (.cells cs.toArray e)))
  (k:∀ b w',Hp S w0 w' (cB b e cs::L)->Ext w w'->K (.slice (some ⟨b,0,none⟩) ln ln) w'):fU P (ev n σ) w (.buildSlice t ln parts) ty K:=
 oD hrun λw' hA=>k _ w' (H.al hA) hA.ext
theorem Est {b o k0:Nat} {v:Value} {cs:List Value} {T:TypeId} (H:Hp S w0 w L) (i:Nat) (hs:SZ P t k0) (hx:ev n σ x= .pointer (some ⟨b,o,none⟩)) (hi:L[i]?=some (cB b T cs)) (hy:ev n σ y=v) (hk:k0=v.cells.size) (hl:Nat.ble (o+v.cells.size) cs.length=true) (h1:v.cells.toList.all (·.oneCell')=true)
  (k:∀ w',Hp S w0 w' (L.set i (cB b T (aL cs o v.cells.toList)))->K undef w'):fU P (ev n σ) w (.store t x y) ty K:=
 R8 (hk▸hs) hx hy (H.at i hi) (Nat.le_of_ble_eq_true hl) h1 λw' hp=>k w' (H.pt i hi hp)
theorem Blk.lst {α:Type} {E:En α} {h:Array Obj} {b:Nat} {T:TypeId} {cs:List Value} (hb:Blk h b cs T) (u:α) (hu:cs=E.enc u):Src h (.slice (some ⟨b,0,none⟩) 1 1) 1 E.k (Eng.flat E.enc [u]):=by
 subst hu;rw [Jq];exact hb.src1 (by rw [E.len,Nat.one_mul]) (by decide)
theorem Hp.lst {α:Type} {E:En α} {b:Nat} {T:TypeId} {cs:List Value} (H:Hp S w0 w L) (i:Nat) (hi:L[i]?=some (cB b T cs)) (u:α) (hu:cs=E.enc u):Src w.heap (.slice (some ⟨b,0,none⟩) 1 1) 1 E.k (flat E.enc [u]):=Blk.lst (H.at i hi) u hu
end
section
variable {P:Program} {ops:Array Oper} {Q:Exit->Act->World->Prop} {rest:List Oper} {n:Nat} {σ:Nat->Value} {ds:List Deferred} {w:World} {op:Op} {ty:TypeId} {pos:String} {af:Array Edge} {d:Nat} {v:Value}
theorem sr {id:Nat} {l:List Oper} {y:Code} {a:Act} (h:∀ Q',(∀ a w,y.wq rr P Q a w->Q' .normal a w)->WL rr P l.toArray Q' l a w):(Code.seq (Code.region id l.toArray false) y).wq rr P Q a w:=
 wpIn_seq (region (h _ λ_ _ h=>h))
theorem cl {f:FuncId} {args:Array Operand} {ats:Array TypeId} {vs:List Value} {R:Ending->World->Prop} (c:CF P f) (hc:Calls P f vs.toArray w R) (hv:args.toList.map (ev n σ)=vs)
  (k:∀ e w',R e w'->∃ v,e= .returned v/\WL rr P ops Q rest (F n (gT σ d v) ds) w'):WL rr P ops Q (⟨some d,.call { callee:=.value (.func f),args:=args,argTypes:=ats },ty,pos,af,none⟩::rest) (F n σ ds) w:=
 st_c (aT vs c rfl (by simpa using hv)) hc k
end
end Go.Eng
namespace Go.Eng
open Go.RowKit
variable {rr:Option Nat}
theorem d9 {P:Program} {n:Nat} {σ:Nat->Value} {w:World} {ty t:TypeId} {x:Operand} {b:Bool} (hx:ev n σ x= .bool b):Ex P (ev n σ) w (.unOp .not t x) ty (.bool (decide (¬ (b=true)))):=aV (p:=b=true) (by rw [hx];cases b <;> rfl)
section
variable {P:Program} {ops:Array Oper} {Q:Exit->Act->World->Prop} {rest:List Oper} {n:Nat} {σ:Nat->Value} {ds:List Deferred} {w:World} {op:Op} {ty:TypeId} {pos:String} {af:Array Edge} {d:Nat} {v:Value}
theorem qt (h:Ex P (ev n σ) w op ty v) (k:WL rr P ops Q rest (F n (gT σ d v) ds) w):WL rr P ops Q (⟨some d,op,ty,pos,af,none⟩::rest) (F n σ ds) w:=IU h k
theorem nl (h:Q .normal (F n σ ds) w):WL rr P ops Q [] (F n σ ds) w:=NS h
end
abbrev eS:En ByteArray:=⟨λs=>[.string s],1,λ_=>rfl,by decide,λ_=>rfl⟩
end Go.Eng
namespace Go.Eng
open Go.RowKit
variable {rr:Option Nat}
end Go.Eng
namespace Go.Eng
open Go.RowKit
variable {rr:Option Nat}
section
variable {P:Program} {Q:Exit->Act->World->Prop} {n:Nat} {σ:Nat->Value} {ds:List Deferred} {w:World}
theorem cndY {x y:Code} {c:Operand} {p:Prop} [Decidable p] (hc:ev n σ c= .bool (decide p)) (hp:¬ ¬ p) (h:x.wq rr P Q (F n σ ds) w):(Code.cond c x y).wq rr P Q (F n σ ds) w:=cnd hc (λ_=>h) λk=>absurd k hp
theorem cndN {x y:Code} {c:Operand} {p:Prop} [Decidable p] (hc:ev n σ c= .bool (decide p)) (hp:¬ p) (h:y.wq rr P Q (F n σ ds) w):(Code.cond c x y).wq rr P Q (F n σ ds) w:=cnd hc (λk=>absurd k hp) λ_=>h
end
end Go.Eng
