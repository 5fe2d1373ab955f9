/- slices.SortFunc over a list of one's own, as a piece. Over any program. -/
import Derived.Test.YtljfgmedbjlkaaaGreatVR
import Derived.Shelf.SlSortCmp.NoneTotal
import Derived.Lib.Bytealg
namespace Go.Eng
open Go.RowKit Go.Sort Go.Shelf Go.Proofs
section
variable {α:Type} [Inhabited α]
theorem jy (E:En α):∀ (xs:List α) (t:Nat),t<xs.length * E.k->(flat E.enc xs)[t]?=some ((E.enc (el xs (t / E.k)))[t % E.k]!)
 | [],t,h=>by simp at h
 | x::xs,t,h=>by
  have hl:=E.len x;have hp:=E.pos;simp only [flat,List.flatMap_cons]
  by_cases ht:t<E.k
  .rw [List.getElem?_append_left (by omega),Nat.div_eq_of_lt ht,Nat.mod_eq_of_lt ht,aF (by simp)];have h2:t<(E.enc x).length:=by omega
   rw [List.getElem?_eq_getElem h2];simp [h2]
  .have hlen:(x::xs).length=xs.length+1:=rfl;rw [hlen,Nat.add_mul,Nat.one_mul] at h;rw [List.getElem?_append_right (by omega),hl];have ih:=jy E xs (t-E.k) (by omega);unfold flat at ih;rw [ih];have e1:t / E.k=(t-E.k) / E.k+1:=Nat.div_eq_sub_div hp (by omega);have e2:t % E.k=(t-E.k) % E.k:=Nat.mod_eq_sub_mod (by omega);rw [e1,e2];rfl
omit [Inhabited α] in
theorem kE (E:En α) (xs:List α):(flat E.enc xs).length=xs.length * E.k:=by
 induction xs with
 | nil=>simp [flat]
 | cons x xs ih=>
  have:=E.len x
  simp only [flat,List.flatMap_cons,List.length_append,List.length_cons,Nat.add_mul,Nat.one_mul] at *
  omega
theorem zT (d:Array α) (i:Nat):el d.toList i=d[i]! :=by
 unfold el;obtain ⟨l⟩:=d;simp only [getElem!_def,List.getElem?_toArray,List.getD_eq_getElem?_getD];cases l[i]? <;> rfl
theorem tI (E:En α) (d:Array α):(flatK E.enc E.k d).toList=flat E.enc d.toList:=by
 refine List.ext_getElem? λt=>?_
 by_cases h:t<d.size * E.k
 .have h1:=get_flatK E.enc E.k d t h;rw [jy E d.toList t (by simpa using h),zT,← h1];have h2:t<(flatK E.enc E.k d).size:=by simpa using h
  rw [getElem!_pos _ t h2];simp
 .rw [List.getElem?_eq_none (by simp;omega),List.getElem?_eq_none (by rw [kE];simp;omega)]
theorem Ar {E:En α} {w w':World} {b n:Nat} {os:Array Obj} {cs R:List Value} {T:TypeId} {d':Array α} (hB:Blk w.heap b (cs++R) T) (hs:cs.length=d'.size * E.k) (hw:w'=sortWorldK E.enc E.k w b 0 n d' os) :
  Mod (λz=>z=b) w w'/\Blk w'.heap b (flat E.enc d'.toList++R) T:=by
 have hh:w'.heap=w.heap.modify b (onCells (putCells id 0 (flatK E.enc E.k d')))++os:=by rw [hw];rfl
 have hlt:=hB.lt;refine ⟨⟨by rw [hw];rfl,by rw [hw];rfl,by rw [hw];rfl,by rw [hh,Array.size_append,Array.size_modify];omega,λk hk hkb=>?_⟩,?_⟩
 .rw [hh,Array.getElem?_append_left (by rw [Array.size_modify];exact hk),Array.getElem?_modify,if_neg (λe=>hkb e.symm)]
 .unfold Blk at hB ⊢;rw [hh,Array.getElem?_append_left (by rw [Array.size_modify];exact hlt),Array.getElem?_modify,if_pos rfl,hB];simp only [Option.map_some,onCells,Option.some.injEq,Obj.cells.injEq,and_true];apply Array.toList_inj.1;rw [← tI];simp only [putCells,Array.toList_mapIdx];refine List.ext_getElem? λt=>?_;have hF:(flatK E.enc E.k d').size=cs.length:=by rw [size_flatK];exact hs.symm
  rw [List.getElem?_mapIdx]
  by_cases ht:t<cs.length
  .have h2:t<(flatK E.enc E.k d').size:=by omega
   have e1:(cs++R)[t]?=some cs[t]:=by rw [List.getElem?_append_left ht,List.getElem?_eq_getElem ht]
   have e2:((flatK E.enc E.k d').toList++R)[t]?=some (flatK E.enc E.k d')[t]:=by
    rw [List.getElem?_append_left (by rw [Array.length_toList];exact h2),Array.getElem?_toList,Array.getElem?_eq_getElem h2]
   rw [e1,e2];simp only [Option.map_some,Nat.zero_le,Nat.zero_add,h2,and_self,if_true,id,Nat.sub_zero];rw [getElem!_pos _ t h2]
  .have e1:(cs++R)[t]?=R[t-cs.length]? :=List.getElem?_append_right (by omega)
   have e2:((flatK E.enc E.k d').toList++R)[t]?=R[t-cs.length]? :=by
    rw [List.getElem?_append_right (by rw [Array.length_toList];omega),Array.length_toList,hF]
   rw [e1,e2]
   cases R[t-cs.length]? with
   | none=>rfl
   | some x=>simp only [Option.map_some];rw [if_neg (by omega)]
theorem ES {E:En α} {w:World} {b:Nat} {xs:List α} {R:List Value} {T:TypeId} (hB:Blk w.heap b (flat E.enc xs++R) T):HoldsK E.enc E.k w b 0 xs.toArray:=by
 intro j hj;have hl:=kE E xs;have hj':j<(flat E.enc xs).length:=by rw [size_flatK] at hj;simpa [hl] using hj
 have hF:=tI E xs.toArray;unfold Blk at hB
 have e:(flatK E.enc E.k xs.toArray)[j]! = (flat E.enc xs)[j]! :=by
  rw [getElem!_pos _ j hj,getElem!_pos _ j hj',← Array.getElem_toList];simp only [hF]
 rw [id,e,getElem!_pos _ j hj']
 constructor
 .simp only [World.cell?,hB,Option.isSome_none,Bool.false_eq_true,if_false,Nat.zero_add,List.getElem?_toArray];rw [List.getElem?_append_left hj',List.getElem?_eq_getElem hj']
 .simp [World.frozen?,hB]
theorem rE {P:Program} {f g:FuncId} {lt:α->α->Bool} {E:En α} {T:TypeId} {a:Option Addr} {m c:Nat} {xs:List α} {S:Nat->Prop} {w0:World}
  (hs:∀ (blk cap:Nat) (d:Array α) (w:World),HoldsK E.enc E.k w blk 0 d->blk<w.heap.size->d.size<4611686018427387904->Calls P f #[.slice (some ⟨blk,0,none⟩) d.size cap,.func (.func g) #[] #[]] w λe w'=>e= .returned (.tuple #[])/\∃ d' n os,PermIn 0 d.size d d'/\SortedIn lt 0 d.size d'/\w'=sortWorldK E.enc E.k w blk 0 n d' os)
  (h0:∀ p cap w,Calls P f #[.slice p 0 cap,.func (.func g) #[] #[]] w λe w'=>e= .returned (.tuple #[])/\w'=w)
  (H:Hp S w0 w0 [cQ T E a m c xs]) (hm:m<4611686018427387904) :
  Calls P f #[.slice a m c,.func (.func g) #[] #[]] w0 λe w'=>(∃ v,e= .returned v)/\∃ xs',List.Perm xs' xs/\(∀ i j,i<j->j<m->lt (el xs' j) (el xs' i)=false)/\Hp S w0 w' [cQ T E a m c xs']:=by
 have hq:OwnQ w0.heap T E.k a m c (flat E.enc xs):=H.at 0 rfl;have hl:=kE E xs;have hxm:xs.length=m:=Nat.eq_of_mul_eq_mul_right E.pos (by rw [← hl];exact hq.1)
 rcases Nat.eq_zero_or_pos m with rfl | hp
 .refine (h0 a c w0).mono λe w' ⟨h1,h2⟩=>⟨⟨_,h1⟩,xs,List.Perm.refl _,λi j _ hj=>absurd hj (Nat.not_lt_zero _),?_⟩;rw [h2];exact H
 .obtain ⟨_,⟨rfl,_⟩ | ⟨b,R,hc,rfl,hB,hmc,hcm,hcl⟩⟩:=hq
  .exact absurd hp (Nat.lt_irrefl _)
  .have hsz:xs.toArray.size=m:=by simpa using hxm
   have hh:=hs b c xs.toArray w0 (ES hB) hB.lt (by omega);rw [hsz] at hh;refine hh.mono λe w' ⟨h1,d',n,os,hp',hs',hw⟩=>⟨⟨_,h1⟩,d'.toList,?_,?_,?_⟩
   .have:=hp'.2.2;rw [Array.extract_eq_self_of_le (by rw [hp'.1];omega),Array.extract_eq_self_of_le (by omega)] at this
    simpa using this
   .intro i j hij hj;rw [zT,zT];exact hs' i j (Nat.zero_le _) hij hj
   .have hd:d'.size=m:=by rw [hp'.1];exact hsz
    obtain ⟨hM,hB'⟩:=Ar (E:=E) (cs:=flat E.enc xs) hB (by rw [hl,hxm,hd]) hw
    have h2:=H.upd (d:=cQ T E (some ⟨b,0,none⟩) m c d'.toList) 0 rfl hM (λz hz=>⟨hc,by rw [hz];rfl⟩) ⟨by rw [kE];simp [hd],.inr ⟨b,R,hc,rfl,hB',hmc,hcm,by
     have e1:=kE E d'.toList;have e2:d'.toList.length=m:=by simpa using hd
     rw [List.length_append,e1,e2,← hxm,← hl,← List.length_append];exact hcl⟩⟩ λz hz=>?_
    .exact h2
    .obtain ⟨h3,h4⟩:=hz;injection h4 with h4;have h5:b=z:=h4;subst h5;exact ⟨by have:=hM.size;have:=hB.lt;omega,.inl ⟨hc,rfl⟩⟩
end
end Go.Eng
namespace Go.Lib
theorem dY:∀ a:List UInt8,compareBytes a a=0
 | []=>rfl
 | x::r=>by rw [compareBytes,if_neg (UInt8.lt_irrefl x),if_neg (UInt8.lt_irrefl x)];exact dY r
theorem MP:∀ {a b:List UInt8},compareBytes a b=0->a=b
 | [],[],_=>rfl
 | [],_::_,h=>by simp [compareBytes] at h
 | _::_,[],h=>by simp [compareBytes] at h
 | x::r,y::s,h=>by
  rw [compareBytes] at h
  split at h
  .cases h
  .split at h
   .cases h
   .rename_i h1 h2;rw [MP h,UInt8.le_antisymm (UInt8.not_lt.1 h2) (UInt8.not_lt.1 h1)]
theorem Dk:∀ a b:List UInt8,compareBytes b a= - compareBytes a b
 | [],[]=>rfl
 | [],_::_=>rfl
 | _::_,[]=>rfl
 | x::r,y::s=>by
  rw [compareBytes,compareBytes]
  by_cases h1:x<y
  .simp [h1,UInt8.lt_asymm h1]
  .by_cases h2:y<x
   .simp [h1,h2]
   .simp [h1,h2];exact Dk r s
theorem x8:∀ {a b c:List UInt8},compareBytes a b<0->compareBytes b c<0->compareBytes a c<0
 | [],[],_,h,_=>by simp [compareBytes] at h
 | [],_::_,[],_,h=>by simp [compareBytes] at h
 | [],_::_,_::_,_,_=>by simp [compareBytes]
 | _::_,[],_,h,_=>by simp [compareBytes] at h
 | _::_,_::_,[],_,h=>by simp [compareBytes] at h
 | x::r,y::s,z::t,h,k=>by
  rw [compareBytes] at h k ⊢
  by_cases h1:x<y
  .by_cases k1:y<z
   .rw [if_pos (UInt8.lt_trans h1 k1)];decide
   .rw [if_neg k1] at k
    by_cases k2:z<y
    .rw [if_pos k2] at k;cases k
    .rw [if_pos (show x<z by rw [UInt8.le_antisymm (UInt8.not_lt.1 k1) (UInt8.not_lt.1 k2)];exact h1)];decide
  .rw [if_neg h1] at h
   by_cases h2:y<x
   .rw [if_pos h2] at h;cases h
   .rw [if_neg h2] at h;have e:x=y:=UInt8.le_antisymm (UInt8.not_lt.1 h2) (UInt8.not_lt.1 h1);subst e
    by_cases k1:x<z
    .rw [if_pos k1];decide
    .rw [if_neg k1] at k ⊢
     by_cases k2:z<x
     .rw [if_pos k2] at k;cases k
     .rw [if_neg k2] at k ⊢;exact x8 h k
end Go.Lib
