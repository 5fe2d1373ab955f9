/- The engine's second form: a call's own memory as a list of pieces that lie apart. Over any program. -/
import Derived.Test.YtljfgmedbjlkaaaGreatSli
namespace Go.Eng
open Go.RowKit
/-- a piece of memory: which blocks it has, what it says, and that it says so while these stay -/
structure Ch where
 foot:Nat→Prop
 says:Array Obj→Prop
 keep:∀ {h h':Array Obj},says h→(∀ b,foot b→b<h.size→h'[b]?=h[b]?)→says h'
/-- w came of w0 by turning blocks of S and new ones alone; L: what is the call's own, each apart from the others -/
structure Hp (S:Nat→Prop) (w0 w:World) (L:List Ch):Prop where
 fr:Mod S w0 w
 says:∀ c ∈ L,c.says w.heap
 own:∀ c ∈ L,∀ b,c.foot b→b<w.heap.size∧(S b∨w0.heap.size≤b)
 apart:L.Pairwise fun c d=>∀ b,c.foot b→¬ d.foot b
section
variable {S:Nat→Prop} {w0 w w':World} {L M:List Ch} {c d e:Ch} {i j:Nat}
theorem Hp.start (S:Nat→Prop) (w:World):Hp S w w []:=⟨Mod.refl _ _,by simp,by simp,List.Pairwise.nil⟩
theorem Hp.at (H:Hp S w0 w L) (i:Nat) (hi:L[i]?=some c):c.says w.heap:=H.says c (List.mem_of_getElem? hi)
theorem Hp.lt (H:Hp S w0 w L) (i:Nat) (hi:L[i]?=some c) {b:Nat} (hb:c.foot b):b<w.heap.size:=(H.own c (List.mem_of_getElem? hi) b hb).1
theorem apart_ne (h:L.Pairwise fun c d=>∀ b,c.foot b→¬ d.foot b) (hi:L[i]?=some c) (hj:L[j]?=some d) (hij:i≠j) (b:Nat) (hb:c.foot b):¬ d.foot b:=by
 obtain ⟨hil,rfl⟩:=List.getElem?_eq_some_iff.1 hi
 obtain ⟨hjl,rfl⟩:=List.getElem?_eq_some_iff.1 hj
 rw [List.pairwise_iff_getElem] at h
 rcases Nat.lt_or_gt_of_ne hij with h1 | h1
 ·exact h i j hil hjl h1 b hb
 ·exact fun hd=>h j i hjl hil h1 b hd hb
theorem Hp.ne (H:Hp S w0 w L) (i j:Nat) (hi:L[i]?=some c) (hj:L[j]?=some d) (hij:i≠j) (b:Nat) (hb:c.foot b):¬ d.foot b:=apart_ne H.apart hi hj hij b hb
theorem Hp.le (H:Hp S w0 w L):w0.heap.size≤w.heap.size:=H.fr.size
theorem Hp.size (H:Hp S w0 w L):w0.heap.size≤w.heap.size:=H.fr.size
/-- one piece turned, others stay -/
theorem Hp.upd (H:Hp S w0 w L) (i:Nat) (hi:L[i]?=some c) {S':Nat→Prop} (hM:Mod S' w w') (hS:∀ b,S' b→c.foot b) (hd:d.says w'.heap) (hf:∀ b,d.foot b→b<w'.heap.size∧(c.foot b∨w.heap.size≤b)):Hp S w0 w' (L.set i d):=by
 have hmem:=List.mem_of_getElem? hi
 obtain ⟨hil,hci⟩:=List.getElem?_eq_some_iff.1 hi
 refine ⟨H.fr.trans' hM fun b hb=>(H.own c hmem b (hS b hb)).2,fun x hx=>?_,fun x hx b hb=>?_,?_⟩
 ·obtain ⟨k,hk,rfl⟩:=List.getElem_of_mem hx
  rw [List.length_set] at hk
  rw [List.getElem_set]
  split
  ·exact hd
  ·rename_i hne
   refine (L[k]).keep (H.says _ (List.getElem_mem hk)) fun b hb hlt=>hM.block b hlt fun hs=>?_
   exact H.ne k i (List.getElem?_eq_getElem hk) hi (Ne.symm hne) b hb (hS b hs)
 ·obtain ⟨k,hk,rfl⟩:=List.getElem_of_mem hx
  rw [List.length_set] at hk
  rw [List.getElem_set] at hb
  split at hb
  ·obtain ⟨h1,h2⟩:=hf b hb
   refine ⟨h1,?_⟩
   rcases h2 with h2 | h2
   ·exact (H.own c hmem b h2).2
   ·exact .inr (Nat.le_trans H.size h2)
  ·obtain ⟨h1,h2⟩:=H.own _ (List.getElem_mem hk) b hb
   exact ⟨Nat.lt_of_lt_of_le h1 hM.size,h2⟩
 ·rw [List.pairwise_iff_getElem]
  intro p q hp hq hpq b hb
  rw [List.length_set] at hp hq
  rw [List.getElem_set] at hb ⊢
  have old:∀ k,(hk:k<L.length)→k≠i→∀ b,d.foot b→¬ (L[k]).foot b:=fun k hk hne b hb hk'=>by
   obtain ⟨_,h2⟩:=hf b hb
   rcases h2 with h2 | h2
   ·exact H.ne k i (List.getElem?_eq_getElem hk) hi hne b hk' h2
   ·have:=(H.own _ (List.getElem_mem hk) b hk').1;omega
  split at hb
  ·rename_i e1
   rw [if_neg (by omega)]
   exact old q hq (by omega) b hb
  ·split
   ·exact fun h=>old p hp (by omega) b h hb
   ·exact H.ne p q (List.getElem?_eq_getElem hp) (List.getElem?_eq_getElem hq) (by omega) b hb
theorem Hp.ext (H:Hp S w0 w L) (x:Ext w w'):Hp S w0 w' L:=
 ⟨H.fr.ext x,fun c hc=>c.keep (H.says c hc) fun b _ hlt=>x.block b hlt,fun c hc b hb=>⟨Nat.lt_of_lt_of_le (H.own c hc b hb).1 x.size,(H.own c hc b hb).2⟩,H.apart⟩
/-- new pieces -/
theorem Hp.app (H:Hp S w0 w L) {S':Nat→Prop} (hS:∀ b,¬ S' b) (K:Hp S' w w' M):Hp S w0 w' (M++L):=by
 have x:Ext w w':=⟨K.fr.os,K.fr.tape,K.fr.output,K.fr.size,fun b hb=>K.fr.block b hb (hS b)⟩
 have H':=H.ext x
 refine ⟨H'.fr,fun c hc=>?_,fun c hc b hb=>?_,?_⟩
 ·rcases List.mem_append.1 hc with h | h
  ·exact K.says c h
  ·exact H'.says c h
 ·rcases List.mem_append.1 hc with h | h
  ·obtain ⟨h1,h2⟩:=K.own c h b hb
   exact ⟨h1,.inr (Nat.le_trans H.size (h2.resolve_left (hS b)))⟩
  ·exact H'.own c h b hb
 ·refine List.pairwise_append.2 ⟨K.apart,H.apart,fun c hc d hd b hb hb'=>?_⟩
  have h1:=(K.own c hc b hb).2.resolve_left (hS b)
  have h2:=(H.own d hd b hb').1
  omega
/-- the same piece, said otherwise -/
theorem Hp.conv (H:Hp S w0 w L) (i:Nat) (hi:L[i]?=some c) (hd:c.says w.heap→d.says w.heap) (hf:∀ b,d.foot b→c.foot b):Hp S w0 w (L.set i d):=
 H.upd i hi (S':=fun _=>False) (Mod.refl _ _) (fun _ h=>h.elim) (hd (H.at i hi)) fun b hb=>⟨H.lt i hi (hf b hb),.inl (hf b hb)⟩
/-- two pieces as one -/
theorem Hp.join (H:Hp S w0 w (c::L)) (i:Nat) (hi:L[i]?=some d) (he:c.says w.heap→d.says w.heap→e.says w.heap) (hf:∀ b,e.foot b→c.foot b∨d.foot b):Hp S w0 w (L.set i e):=by
 have hil:=(List.getElem?_eq_some_iff.1 hi).1
 have hdm:=List.mem_of_getElem? hi
 have hca:=List.pairwise_cons.1 H.apart
 refine ⟨H.fr,fun x hx=>?_,fun x hx b hb=>?_,?_⟩
 ·rcases List.mem_or_eq_of_mem_set hx with h | rfl
  ·exact H.says x (List.mem_cons_of_mem _ h)
  ·exact he (H.says c (List.mem_cons_self ..)) (H.says d (List.mem_cons_of_mem _ hdm))
 ·rcases List.mem_or_eq_of_mem_set hx with h | rfl
  ·exact H.own x (List.mem_cons_of_mem _ h) b hb
  ·rcases hf b hb with h | h
   ·exact H.own c (List.mem_cons_self ..) b h
   ·exact H.own d (List.mem_cons_of_mem _ hdm) b h
 ·have key:∀ k (hk:k<L.length),k≠i→∀ b,e.foot b→¬ (L[k]).foot b:=fun k hk hne b hb hb'=>by
   rcases hf b hb with h | h
   ·exact hca.1 _ (List.getElem_mem hk) b h hb'
   ·exact apart_ne hca.2 (List.getElem?_eq_getElem hk) hi hne b hb' h
  rw [List.pairwise_iff_getElem]
  intro p q hp hq hpq b hb
  rw [List.length_set] at hp hq
  rw [List.getElem_set] at hb ⊢
  split at hb
  ·rw [if_neg (by omega)];exact key q hq (by omega) b hb
  ·split
   ·exact fun h=>key p hp (by omega) b h hb
   ·exact apart_ne hca.2 (List.getElem?_eq_getElem hp) (List.getElem?_eq_getElem hq) (by omega) b hb
/-- nothing that was there has turned -/
theorem Hp.noS {S:Nat→Prop} (H:Hp S w0 w L) (hS:∀ b,¬ S b):Ext w0 w:=⟨H.fr.os,H.fr.tape,H.fr.output,H.fr.size,fun b hb=>H.fr.block b hb (hS b)⟩
end
/-- nothing -/
abbrev No:Nat→Prop:=fun _=>False
theorem Hp.x {w0 w:World} {L:List Ch} (H:Hp No w0 w L):Ext w0 w:=H.noS fun _ h=>h
theorem Hp.app' {S:Nat→Prop} {w0 w w':World} {L M:List Ch} (H:Hp S w0 w L) (K:Hp No w w' M):Hp S w0 w' (M++L):=H.app (fun _ h=>h) K
/-! ### Ways of encoding -/
structure En (α:Type) where
 enc:α→List Value
 k:Nat
 len:∀ x,(enc x).length=k
 pos:0<k
 ones:∀ x,(enc x).all (·.oneCell')=true
theorem En.flat_ones {α:Type} (E:En α) (xs:List α):(flat E.enc xs).all (·.oneCell')=true:=by
 induction xs with
 | nil=>rfl
 | cons x xs ih=>simp only [flat,List.flatMap_cons,List.all_append] at *;rw [ih,E.ones];rfl
def ab (a:Option Addr):Nat:=(a.map (·.block)).getD 0
def ao (a:Option Addr):Nat:=(a.map (·.off)).getD 0
section
variable {α:Type} {E:En α} {h:Array Obj} {a:Option Addr} {c i:Nat} {xs:List α}
end
/-! ### Pieces -/
/-- a block -/
def cB (b:Nat) (T:TypeId) (cs:List Value):Ch:=⟨fun z=>z=b,fun h=>Blk h b cs T,fun hs hk=>hs.keep (hk _ rfl hs.lt)⟩
theorem Hp.al {S:Nat→Prop} {w0 w w':World} {L:List Ch} {cs:List Value} {T:TypeId} (H:Hp S w0 w L) (h:Al w w' (.cells cs.toArray T)):Hp S w0 w' (cB w.heap.size T cs::L):=by
 refine Hp.app' H (M:=[cB w.heap.size T cs]) ⟨h.ext.mod _,fun c hc=>?_,fun c hc b hb=>?_,List.pairwise_singleton _ _⟩
 ·rw [List.mem_singleton] at hc;subst hc;exact h.new
 ·rw [List.mem_singleton] at hc;subst hc
  have hb:b=w.heap.size:=hb
  subst hb
  exact ⟨by rw [h.size];omega,.inr (Nat.le_refl _)⟩
theorem Hp.pt {S:Nat→Prop} {w0 w w':World} {L:List Ch} {b:Nat} {cs cs':List Value} {T:TypeId} (H:Hp S w0 w L) (i:Nat) (hi:L[i]?=some (cB b T cs)) (h:Pt w w' b (.cells cs'.toArray T (0,0))):Hp S w0 w' (L.set i (cB b T cs')):=
 H.upd i hi (S':=fun z=>z=b) ((Mod.refl _ w).pt h (.inl rfl)) (fun _ hb=>hb) h.new fun z hz=>⟨by rw [h.size];exact H.lt i hi hz,.inl hz⟩
end Go.Eng
