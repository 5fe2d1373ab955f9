/- Plain law: the document's functions of a reader, held against the tokens. -/
import Derived.Test.YtljfgmedbjlkaaaGreatRPA
import Derived.Test.YtljfgmedbjlkaaaGreatQT
namespace Go.QP
open Go.Eng
theorem dr_self (l:List Nat) (i:Nat):dr l i i=l:=by unfold dr;rw [Nat.sub_self,List.drop_zero]
theorem dr_dr {l:List Nat} {i j k:Nat} (h:i≤j) (h':j≤k):dr (dr l i j) j k=dr l i k:=by unfold dr;rw [List.drop_drop];congr 1;omega
theorem dr_len {l:List Nat} {i j:Nat}:(dr l i j).length=l.length-(j-i):=List.length_drop
theorem hd_lt {l:List Nat} {c:Nat} (h:hd l=c) (hc:c≠0):l≠[]:=by rintro rfl;exact hc h.symm
theorem hd_cons {l:List Nat} (h:l≠[]):l=hd l::l.tail:=by cases l with | nil=>exact absurd rfl h | cons c r=>rfl
theorem lt_ne {l:List Nat} (h:Go.QP.Lt (hd l)):l≠[]:=by rintro rfl;exact absurd h (by decide)
theorem not_lt0:¬ Go.QP.Lt 0:=by decide
theorem not_ltd (k:Nat):¬ Go.QP.Lt (hd (List.drop k ([]:List Nat))):=by rw [List.drop_nil];exact not_lt0
theorem wordN_n (b:Bool):∀ (n:Nat) (l:List Nat),wordN b n l≤n
 | 0,_=>Nat.le_refl _
 | n+1,[]=>Nat.zero_le _
 | n+1,c::l=>by
  have:=wordN_n b n l
  rw [wordN];split <;> omega
/-- how far a word goes -/
theorem wordN_step (b:Bool):∀ (n:Nat) (l:List Nat),(wordN b (n+1) l=n+1∧wordN b n l=n∧n<l.length∧Go.QP.Lt (hd (l.drop n))∧(b=true→hd (l.drop n)≤57))∨(wordN b (n+1) l≤n∧wordN b n l=wordN b (n+1) l∧¬ (Go.QP.Lt (hd (l.drop (wordN b n l)))∧(b=true→hd (l.drop (wordN b n l))≤57)))
 | 0,[]=>.inr ⟨Nat.le_refl _,rfl,fun h=>absurd h.1 (not_ltd _)⟩
 | 0,c::l=>by
  by_cases h:Go.QP.Lt c∧(b=true→c≤57)
  ·refine .inl ⟨?_,rfl,by simp,h.1,h.2⟩
   rw [wordN,if_pos h];cases l <;> rfl
  ·refine .inr ⟨?_,?_,h⟩
   ·rw [wordN,if_neg h];exact Nat.zero_le _
   ·rw [wordN,wordN,if_neg h]
 | n+1,[]=>.inr ⟨Nat.zero_le _,rfl,fun h=>absurd h.1 (not_ltd _)⟩
 | n+1,c::l=>by
  by_cases h:Go.QP.Lt c∧(b=true→c≤57)
  ·rw [wordN,if_pos h,wordN,if_pos h]
   rcases wordN_step b n l with ⟨h1,h2,h3,h4,h5⟩ | ⟨h1,h2,h3⟩
   ·refine .inl ⟨by omega,by omega,by rw [List.length_cons];omega,?_,?_⟩
    ·rw [List.drop_succ_cons];exact h4
    ·rw [List.drop_succ_cons];exact h5
   ·refine .inr ⟨by omega,by omega,?_⟩
    rw [Nat.add_comm 1,List.drop_succ_cons]
    exact h3
  ·refine .inr ⟨?_,?_,?_⟩
   ·rw [wordN,if_neg h];exact Nat.zero_le _
   ·rw [wordN,if_neg h,wordN,if_neg h]
   ·rw [wordN,if_neg h];exact h
theorem wordN_65 (b:Bool) (l:List Nat):(wordN b 65 l=65∧wordN b 64 l=64∧64<l.length∧Go.QP.Lt (hd (l.drop 64))∧(b=true→hd (l.drop 64)≤57))∨(wordN b 65 l≤64∧wordN b 64 l=wordN b 65 l∧¬ (Go.QP.Lt (hd (l.drop (wordN b 64 l)))∧(b=true→hd (l.drop (wordN b 64 l))≤57))):=wordN_step b 64 l
theorem wordN_mem (b:Bool):∀ (n:Nat) (l:List Nat) (c:Nat),c ∈ l.take (wordN b n l)→Go.QP.Lt c∧(b=true→c≤57)
 | 0,l,c,h=>by simp [wordN] at h
 | n+1,[],c,h=>by simp at h
 | n+1,x::l,c,h=>by
  by_cases hx:Go.QP.Lt x∧(b=true→x≤57)
  ·rw [wordN,if_pos hx,Nat.add_comm,List.take_succ_cons] at h
   rcases List.mem_cons.1 h with rfl | h
   ·exact hx
   ·exact wordN_mem b n l c h
  ·rw [wordN,if_neg hx] at h;simp at h
theorem wordN_pos {b:Bool} {n:Nat} {l:List Nat} (h:Go.QP.Lt (hd l)∧(b=true→hd l≤57)):1≤wordN b (n+1) l:=by
 have hl:=lt_ne h.1
 rw [hd_cons hl,wordN,if_pos h];omega
/-- a word's kind -/
theorem word_kind {l:List Nat} {m:Nat} (h1:1≤m) (h2:m≤64) (hm:m≤l.length) (hw:∀ c ∈ l.take m,Go.QP.Lt c):(sN (l.take m)).size=m∧ch (sN (l.take m)) 0=hd l∧(∀ j,j<(sN (l.take m)).size→Go.QP.Lt (ch (sN (l.take m)) j))∧((∀ c ∈ l.take m,c≤57)→AllD (sN (l.take m))):=by
 have hsz:(sN (l.take m)).size=m:=by rw [sN_size,List.length_take];omega
 have hbl:bl (sN (l.take m))=l.take m:=bl_sN fun x hx=>by have:=hw x hx;unfold Go.QP.Lt at this;omega
 have hch:∀ j,j<m→ch (sN (l.take m)) j ∈ l.take m:=fun j hj=>by
  have:=bl_ch (s:=sN (l.take m)) (i:=j) (by omega)
  rw [hbl] at this
  exact List.mem_of_getElem? this
 refine ⟨hsz,?_,fun j hj=>hw _ (hch j (by omega)),fun hd57 j hj=>hd57 _ (hch j (by omega))⟩
 have:=bl_ch (s:=sN (l.take m)) (i:=0) (by omega)
 rw [hbl] at this
 cases l with
 | nil=>simp at hm;omega
 | cons c r=>
  cases m with
  | zero=>omega
  | succ m=>simp at this;exact this.symm
theorem wordT_small {l:List Nat} {i:Nat} (hs:Sm (hd l)):nextP l i=wordT l i∧wordT l i=(⟨kind (sN (l.take (wordN false 64 l))),if Rsv (sN (l.take (wordN false 64 l))) then ByteArray.empty else sN (l.take (wordN false 64 l)),i,i+wordN false 64 l⟩,true)∧
  kind (sN (l.take (wordN false 64 l)))=(if (sN (l.take (wordN false 64 l))).toList=INPUT.toList then 5 else if (sN (l.take (wordN false 64 l))).toList=OUTPUT.toList then 6 else if (sN (l.take (wordN false 64 l))).toList=NOT.toList then 7 else 1):=by
 have hl:l≠[]:=lt_ne (.inl hs)
 have hlt:Go.QP.Lt (hd l):=.inl hs
 have hp:1≤wordN false 64 l:=wordN_pos (b:=false) (n:=63) ⟨hlt,fun h=>by cases h⟩
 have hle:=wordN_le false 64 l
 have h64:=wordN_n false 64 l
 obtain ⟨k1,k2,k3,_⟩:=word_kind hp h64 hle fun c hc=>(wordN_mem false 64 l c hc).1
 have hk:=kind_of (s:=sN (l.take (wordN false 64 l))) (by omega) (by omega) k3
 rw [k2,if_neg (show ¬ Dg (hd l) by omega),if_neg (show ¬ Gr (hd l) by omega),if_neg (show ¬ hd l=95 by omega)] at hk
 refine ⟨?_,?_,hk⟩
 ·conv=>lhs;rw [hd_cons hl]
  rw [nextP,if_neg (by omega),if_neg (by unfold sign1;rw [if_neg (by omega),if_neg (by omega),if_neg (by omega),if_neg (by omega),if_neg (by omega)];decide),if_neg (by omega),if_neg (by omega),← hd_cons hl]
 ·unfold wordT
  have hnd:decide (Dg (l.headD 0))=false:=decide_eq_false (show ¬ Dg (hd l) by omega)
  rw [hnd]
  dsimp only
  rw [if_neg (by rw [hk];split;decide;split;decide;split;decide;decide),k1]
theorem wordT_great {l:List Nat} {i:Nat} (hs:Gr (hd l)):nextP l i=(⟨2,sN (l.take (wordN false 64 l)),i,i+wordN false 64 l⟩,true):=by
 have hlt:Go.QP.Lt (hd l):=.inr (.inl hs)
 have hl:l≠[]:=lt_ne hlt
 have hp:1≤wordN false 64 l:=wordN_pos (b:=false) (n:=63) ⟨hlt,fun h=>by cases h⟩
 have hle:=wordN_le false 64 l
 have h64:=wordN_n false 64 l
 obtain ⟨k1,k2,k3,_⟩:=word_kind hp h64 hle fun c hc=>(wordN_mem false 64 l c hc).1
 have hk:=kind_of (s:=sN (l.take (wordN false 64 l))) (by omega) (by omega) k3
 rw [k2,if_neg (show ¬ Dg (hd l) by omega),if_pos hs] at hk
 have hr:¬ Rsv (sN (l.take (wordN false 64 l))):=fun h=>by have:=kind_rsv h;omega
 conv=>lhs;rw [hd_cons hl]
 rw [nextP,if_neg (by omega),if_neg (by unfold sign1;rw [if_neg (by omega),if_neg (by omega),if_neg (by omega),if_neg (by omega),if_neg (by omega)];decide),if_neg (by omega),if_neg (by omega),← hd_cons hl]
 unfold wordT
 have hnd:decide (Dg (l.headD 0))=false:=decide_eq_false (show ¬ Dg (hd l) by omega)
 rw [hnd]
 dsimp only
 rw [hk,if_neg (by decide),if_neg hr,k1]
theorem wordT_digit {l:List Nat} {i:Nat} (hs:Dg (hd l)):nextP l i=(⟨3,sN (l.take (wordN true 64 l)),i,i+wordN true 64 l⟩,true):=by
 have hlt:Go.QP.Lt (hd l):=.inr (.inr (.inl hs))
 have hl:l≠[]:=lt_ne hlt
 have hp:1≤wordN true 64 l:=wordN_pos (b:=true) (n:=63) ⟨hlt,fun _=>hs.2⟩
 have hle:=wordN_le true 64 l
 have h64:=wordN_n true 64 l
 obtain ⟨k1,k2,k3,k4⟩:=word_kind hp h64 hle fun c hc=>(wordN_mem true 64 l c hc).1
 have k5:=k4 fun c hc=>(wordN_mem true 64 l c hc).2 rfl
 have hk:=kind_of (s:=sN (l.take (wordN true 64 l))) (by omega) (by omega) k3
 rw [k2,if_pos hs,if_pos k5] at hk
 have hr:¬ Rsv (sN (l.take (wordN true 64 l))):=fun h=>by have:=kind_rsv h;omega
 conv=>lhs;rw [hd_cons hl]
 rw [nextP,if_neg (by omega),if_neg (by unfold sign1;rw [if_neg (by omega),if_neg (by omega),if_neg (by omega),if_neg (by omega),if_neg (by omega)];decide),if_neg (by omega),if_neg (by omega),← hd_cons hl]
 unfold wordT
 have hnd:decide (Dg (l.headD 0))=true:=decide_eq_true hs
 rw [hnd]
 dsimp only
 rw [hk,if_neg (by decide),if_neg hr,k1]
end Go.QP
namespace Go.QP
open Go.Eng
theorem sk_le (l:List Nat) (i:Nat):i≤sk l i∧sk l i≤i+l.length:=blankP_le l false i
theorem sk_lt {l:List Nat} {i:Nat} (h:Go.QP.Lt (hd l)):sk l i=i:=by
 rw [hd_cons (lt_ne h)]
 show blankP (hd l::l.tail) false i=i
 rw [blankP,if_neg (by omega),if_pos (by omega)]
theorem kind_pos' {l:List Nat} {i:Nat} (hs:Sm (hd l)):(nextP l i).1.k≠2∧(nextP l i).1.k≠3∧(nextP l i).1.k≠4:=by
 obtain ⟨w1,w2,w3⟩:=wordT_small (i:=i) hs
 rw [w1,w2]
 simp only
 rw [w3]
 split
 ·decide
 split
 ·decide
 split <;> decide
/-- a term, and the token that stands there -/
theorem term_next (l:List Nat) (i:Nat) :
  (∃ x j k s,termR l i= .ok x j∧nextP l i=(⟨k,s,i,j⟩,true)∧termT k s=some x∧k≠7∧(k=1→Sm (hd l))∧i<j∧l≠[])∨
  (∃ p,termR l i= .bad p∧
   ((p=i∧(l=[]∨((nextP l i).2=false∧(nextP l i).1.k≠4)∨((nextP l i).2=true∧termT (nextP l i).1.k (nextP l i).1.s=none∧¬ ((nextP l i).1.k=5∨(nextP l i).1.k=6∨(nextP l i).1.k=7))))
   ∨(∃ k s x,nextP l i=(⟨k,s,i,p⟩,true)∧WordK k∧termT k s=some x∧(k=1→Sm (hd l))∧i<p∧Go.QP.Lt (hd (dr l i p))∧l≠[])
   ∨(∃ k s,nextP l i=(⟨k,s,i,p⟩,true)∧(k=5∨k=6∨k=7)∧termT k s=none∧Sm (hd l)∧l≠[])
   ∨((nextP l i).2=false∧(nextP l i).1.k=4∧(nextP l i).1.j=p∧l≠[]))):=by
 unfold termR
 by_cases hg:Gr (hd l)
 ·rw [if_pos hg]
  have hl:l≠[]:=lt_ne (.inr (.inl hg))
  have hx:=wordT_great (i:=i) hg
  have hp:1≤wordN false 64 l:=wordN_pos (b:=false) (n:=63) ⟨.inr (.inl hg),fun h=>by cases h⟩
  rcases wordN_65 false l with ⟨h1,h2,h3,h4,_⟩ | ⟨h1,h2,h3⟩
  ·refine .inr ⟨i+64,by unfold runR;rw [if_pos h1],.inr (.inl ⟨2,_,_,by rw [hx,h2],by decide,rfl,(fun h=>by cases h),by omega,?_,hl⟩)⟩
   unfold dr;rw [show i+64-i=64 by omega];exact h4
  ·refine .inl ⟨_,_,2,_,by unfold runR;rw [if_neg (by omega)],by rw [hx,h2],rfl,by decide,(fun h=>by cases h),by omega,hl⟩
 rw [if_neg hg]
 by_cases hd_:Dg (hd l)
 ·rw [if_pos hd_]
  have hl:l≠[]:=lt_ne (.inr (.inr (.inl hd_)))
  have hx:=wordT_digit (i:=i) hd_
  have hp:1≤wordN true 64 l:=wordN_pos (b:=true) (n:=63) ⟨.inr (.inr (.inl hd_)),fun _=>hd_.2⟩
  rcases wordN_65 true l with ⟨h1,h2,h3,h4,_⟩ | ⟨h1,h2,h3⟩
  ·refine .inr ⟨i+64,by unfold digitsR;rw [if_pos h1],.inr (.inl ⟨3,_,_,by rw [hx,h2],by decide,rfl,(fun h=>by cases h),by omega,?_,hl⟩)⟩
   unfold dr;rw [show i+64-i=64 by omega];exact h4
  ·by_cases hw:Wordly (l.drop (wordN true 65 l))
   ·refine .inr ⟨i+wordN true 65 l,by unfold digitsR;rw [if_neg (by omega),if_pos hw],.inr (.inl ⟨3,_,_,by rw [hx,h2],by decide,rfl,(fun h=>by cases h),by omega,?_,hl⟩)⟩
    unfold dr;rw [show i+wordN true 65 l-i=wordN true 65 l by omega]
    rcases hw with hw | hw | hw
    ·exact .inl hw
    ·exact .inr (.inl hw)
    ·exact .inr (.inr (.inl hw))
   ·refine .inl ⟨_,_,3,_,by unfold digitsR;rw [if_neg (by omega),if_neg hw],by rw [hx,h2],rfl,by decide,(fun h=>by cases h),by omega,hl⟩
 rw [if_neg hd_]
 by_cases h34:hd l=34
 ·rw [if_pos h34]
  have hl:l≠[]:=hd_lt h34 (by decide)
  have hx:nextP l i=(⟨4,sN (quotedP l.tail [] (i+1)).1,i,(quotedP l.tail [] (i+1)).2.1⟩,(quotedP l.tail [] (i+1)).2.2):=by
   conv=>lhs;rw [hd_cons hl]
   rw [nextP,if_pos h34]
  have hq:=quotedP_le _ l.tail [] (i+1) (Nat.le_refl _)
  by_cases ho:(quotedP l.tail [] (i+1)).2.2=true
  ·exact .inl ⟨_,_,4,_,by unfold textR;rw [if_pos ho],by rw [hx,ho],rfl,by decide,(fun h=>by cases h),by omega,hl⟩
  ·refine .inr ⟨(quotedP l.tail [] (i+1)).2.1,by unfold textR;rw [if_neg ho],.inr (.inr (.inr ⟨by rw [hx];simpa using ho,by rw [hx],by rw [hx],hl⟩))⟩
 rw [if_neg h34]
 unfold nameR
 by_cases hs:Sm (hd l)
 ·rw [if_neg (not_not_intro hs)]
  have hl:l≠[]:=lt_ne (.inl hs)
  obtain ⟨hn,hx,hk⟩:=wordT_small (i:=i) hs
  rw [hx] at hn
  have hp:1≤wordN false 64 l:=wordN_pos (b:=false) (n:=63) ⟨.inl hs,fun h=>by cases h⟩
  rcases wordN_65 false l with ⟨h1,h2,h3,h4,_⟩ | ⟨h1,h2,h3⟩
  ·have hsz:(sN (l.take 64)).size=64:=by rw [sN_size,List.length_take];omega
   have ne:∀ z:ByteArray,z.size<64→¬ (sN (l.take 64)).toList=z.toList:=fun z hz h=>by rw [bytes_ext h] at hsz;omega
   rw [h2,if_neg (ne _ (by decide)),if_neg (ne _ (by decide)),if_neg (ne _ (by decide))] at hk
   have hr:¬ Rsv (sN (l.take 64)):=fun h=>by have:=kind_rsv h;omega
   rw [h2,hk,if_neg hr] at hn
   refine .inr ⟨i+64,by unfold runR;rw [if_pos h1],.inr (.inl ⟨1,_,_,hn,by decide,rfl,fun _=>hs,by omega,?_,hl⟩)⟩
   unfold dr;rw [show i+64-i=64 by omega];exact h4
  ·rw [h2] at hn hk
   have hrun:runR l i= .ok (sN (l.take (wordN false 65 l))) (i+wordN false 65 l):=by unfold runR;rw [if_neg (by omega)]
   rw [hrun]
   by_cases hr:Rsv (sN (l.take (wordN false 65 l)))
   ·rw [if_pos hr] at hn
    refine .inr ⟨i+wordN false 65 l,by simp only [if_pos hr],.inr (.inr (.inl ⟨_,_,hn,?_,?_,hs,hl⟩))⟩
    ·have h5:=kind_rsv hr
     rw [hk] at h5 ⊢
     split at h5
     ·rename_i h;rw [if_pos h];exact .inl rfl
     split at h5
     ·rename_i h h';rw [if_neg h,if_pos h'];exact .inr (.inl rfl)
     split at h5
     ·rename_i h h' h'';rw [if_neg h,if_neg h',if_pos h''];exact .inr (.inr rfl)
     ·omega
    ·have h5:=kind_rsv hr
     unfold termT
     rw [if_neg (by omega),if_neg (by omega)]
   ·rw [if_neg hr] at hn
    have hk1:kind (sN (l.take (wordN false 65 l)))=1:=by rw [hk,if_neg (fun h=>hr (.inl h)),if_neg (fun h=>hr (.inr (.inl h))),if_neg (fun h=>hr (.inr (.inr h)))]
    rw [hk1] at hn
    exact .inl ⟨_,_,1,_,by simp only [if_neg hr],hn,rfl,by decide,fun _=>hs,by omega,hl⟩
 ·rw [if_pos hs]
  refine .inr ⟨i,rfl,.inl ⟨rfl,?_⟩⟩
  by_cases hl:l=[]
  ·exact .inl hl
  ·refine .inr ?_
   have e:nextP l i=nextP (hd l::l.tail) i:=by rw [← hd_cons hl]
   rw [e,nextP,if_neg h34]
   by_cases hs1:sign1 (hd l)≠0
   ·rw [if_pos hs1]
    refine .inr ⟨rfl,?_,?_⟩
    ·unfold sign1 at hs1 ⊢
     split;rfl
     split;rfl
     split;rfl
     split;rfl
     split;rfl
     rfl
    ·have:sign1 (hd l)=0∨8≤sign1 (hd l):=by
      unfold sign1
      repeat' split
      all_goals omega
     show ¬ (sign1 (hd l)=5∨sign1 (hd l)=6∨sign1 (hd l)=7)
     omega
   ·rw [if_neg hs1]
    split
    ·split
     ·exact .inr ⟨rfl,rfl,by show ¬ ((13:Nat)=5∨(13:Nat)=6∨(13:Nat)=7);decide⟩
     ·exact .inl ⟨rfl,by show (13:Nat)≠4;decide⟩
    split
    ·split
     ·exact .inr ⟨rfl,rfl,by show ¬ ((14:Nat)=5∨(14:Nat)=6∨(14:Nat)=7);decide⟩
     ·exact .inl ⟨rfl,by show (14:Nat)≠4;decide⟩
    ·-- a word that none is
     rw [← hd_cons hl]
     unfold wordT
     dsimp only
     split
     ·exact .inl ⟨rfl,by decide⟩
     ·rename_i hk
      exfalso
      apply hk
      have hnd:decide (Dg (l.headD 0))=false:=decide_eq_false (show ¬ Dg (hd l) from hd_)
      rw [hnd]
      by_cases h95:hd l=95
      ·have hp:1≤wordN false 64 l:=wordN_pos (b:=false) (n:=63) ⟨.inr (.inr (.inr h95)),fun h=>by cases h⟩
       obtain ⟨k1,k2,k3,_⟩:=word_kind hp (wordN_n false 64 l) (wordN_le false 64 l) fun c hc=>(wordN_mem false 64 l c hc).1
       have:=wordN_n false 64 l
       rw [kind_of (by omega) (by omega) k3,k2,if_neg hd_,if_neg hg,if_pos h95]
      ·have h0:wordN false 64 l=0:=by
        rw [hd_cons hl,wordN,if_neg (fun h=>by rcases h.1 with h | h | h | h;exact hs h;exact hg h;exact hd_ h;exact h95 h)]
       rw [h0];rfl
/-- a name, and the token that stands there -/
theorem name_next (l:List Nat) (i:Nat) :
  (∃ s j,nameR l i= .ok s j∧nextP l i=(⟨1,s,i,j⟩,true)∧¬ Go.QP.Lt (hd (dr l i j))∧i<j∧l≠[])∨
  (∃ p,nameR l i= .bad p∧
   ((p=i∧¬ Sm (hd l))
   ∨(∃ s,nextP l i=(⟨1,s,i,p⟩,true)∧i<p∧Go.QP.Lt (hd (dr l i p))∧l≠[])
   ∨(∃ k s,nextP l i=(⟨k,s,i,p⟩,true)∧(k=5∨k=6∨k=7)∧l≠[]))):=by
 by_cases hs:Sm (hd l)
 ·have hl:l≠[]:=lt_ne (.inl hs)
  have ht:termR l i=match nameR l i with | .bad p=>.bad p | .ok s j=>.ok (false,s) j:=by
   unfold termR;rw [if_neg (by omega),if_neg (by omega),if_neg (by omega)];rfl
  rcases term_next l i with ⟨x,j,k,s,h1,h2,h3,h4,h5,h6,h7⟩ | ⟨p,h1,h2⟩
  ·rw [ht] at h1
   cases hn:nameR l i with
   | bad p=>rw [hn] at h1;cases h1
   | ok s' j'=>
    rw [hn] at h1
    injection h1 with hx hj
    subst hj
    have hrun:runR l i= .ok s' j'∧¬ Rsv s':=by
     unfold nameR at hn
     rw [if_neg (not_not_intro hs)] at hn
     cases hr:runR l i with
     | bad p=>rw [hr] at hn;cases hn
     | ok s'' j''=>
      rw [hr] at hn
      simp only at hn
      split at hn
      ·cases hn
      ·rename_i hh;injection hn with a b;subst a b;exact ⟨rfl,hh⟩
    obtain ⟨w1,w2,_⟩:=wordT_small (i:=i) hs
    rw [w2,h2] at w1
    have hk1:k≠2∧k≠3∧k≠4:=by
     have:=kind_pos' hs (i:=i)
     rw [h2] at this
     exact this
    have hk:k=1:=by
     unfold termT at h3
     rw [if_neg hk1.1] at h3
     split at h3
     ·omega
     ·cases h3
    subst hk
    have hsx:s=s':=by
     have:termT 1 s=some (false,s):=rfl
     rw [this,← hx] at h3
     injection h3 with h3
     exact congrArg Prod.snd h3
    subst hsx
    refine .inl ⟨s,j',rfl,h2,?_,h6,hl⟩
    unfold runR at hrun
    rcases wordN_65 false l with ⟨a1,_⟩ | ⟨a1,a2,a3⟩
    ·rw [if_pos a1] at hrun;cases hrun.1
    ·rw [if_neg (by omega)] at hrun
     have hj2:=hrun.1
     injection hj2 with _ hj2
     subst hj2
     unfold dr
     rw [show i+wordN false 65 l-i=wordN false 64 l by omega]
     exact fun h=>a3 ⟨h,fun h=>by cases h⟩
  ·rw [ht] at h1
   cases hn:nameR l i with
   | ok s j=>rw [hn] at h1;cases h1
   | bad p'=>
    rw [hn] at h1
    injection h1 with h1
    subst h1
    rcases h2 with ⟨rfl,h⟩ | ⟨k,s,x,a,b,c,d,e,f,g⟩ | ⟨k,s,a,b,c,d,e⟩ | ⟨a,b,_⟩
    ·exfalso
     obtain ⟨w1,w2,w3⟩:=wordT_small (i:=p') hs
     rw [w2] at w1
     rcases h with h | h | h
     ·exact hl h
     ·rw [w1] at h;exact Bool.noConfusion h.1
     ·rw [w1] at h
      obtain ⟨_,h1,h2⟩:=h
      simp only at h1 h2
      rw [w3] at h1 h2
      split at h1
      ·rename_i hh;rw [if_pos hh] at h2;exact h2 (.inl rfl)
      split at h1
      ·rename_i hh hh';rw [if_neg hh,if_pos hh'] at h2;exact h2 (.inr (.inl rfl))
      split at h1
      ·rename_i hh hh' hh'';rw [if_neg hh,if_neg hh',if_pos hh''] at h2;exact h2 (.inr (.inr rfl))
      ·cases h1
    ·have hk1:=kind_pos' hs (i:=i)
     rw [a] at hk1
     simp only at hk1
     have hk:k=1:=by
      unfold termT at c
      rw [if_neg hk1.1] at c
      split at c
      ·omega
      ·cases c
     subst hk
     exact .inr ⟨_,rfl,.inr (.inl ⟨s,a,e,f,g⟩)⟩
    ·exact .inr ⟨_,rfl,.inr (.inr ⟨k,s,a,b,e⟩)⟩
    ·exfalso
     obtain ⟨w1,w2,_⟩:=wordT_small (i:=i) hs
     rw [w2] at w1
     rw [w1] at a
     exact Bool.noConfusion a
 ·exact .inr ⟨i,by unfold nameR;rw [if_pos hs],.inl ⟨rfl,hs⟩⟩
end Go.QP
