/- Plain law: the lexer's steps. -/
import Derived.Test.YtljfgmedbjlkaaaGreatQA
import Derived.Test.YtljfgmedbjlkaaaGreatVA
namespace Go.QP
open Go.Eng
theorem drop_ch {t:ByteArray} {i:Nat} (h:i<t.size):(bl t).drop i=ch t i::(bl t).drop (i+1):=by
 have hl:i<(bl t).length:=by rw [bl_len];exact h
 rw [List.drop_eq_getElem_cons hl,← el_eq hl,bl_el h]
theorem drop_end {t:ByteArray} {i:Nat} (h:¬ i<t.size):(bl t).drop i=[]:=List.drop_eq_nil_of_le (by rw [bl_len];omega)
section
variable {t:ByteArray} {i R:Nat} {rm:Bool}
theorem bk_t (hq:blankP ((bl t).drop i) rm i=R) (h:i<t.size) (hr:rm=true):blankP ((bl t).drop (i+1)) (decide (ch t i≠10)) (i+1)=R:=by
 rw [← hq,hr,drop_ch h,blankP]
theorem bk_r (hq:blankP ((bl t).drop i) rm i=R) (h:i<t.size) (hr:rm=false) (hc:ch t i=37):blankP ((bl t).drop (i+1)) true (i+1)=R:=by
 rw [← hq,hr,drop_ch h,blankP,if_pos hc]
theorem bk_b (hq:blankP ((bl t).drop i) rm i=R) (h:i<t.size) (hr:rm=false) (hc:ch t i≠37) (hb:¬ (ch t i≠32∧ch t i≠9∧ch t i≠10∧ch t i≠13)):blankP ((bl t).drop (i+1)) rm (i+1)=R:=by
 rw [← hq,hr,drop_ch h,blankP,if_neg hc,if_neg hb]
theorem bk_o (hq:blankP ((bl t).drop i) rm i=R) (h:i<t.size) (hr:rm=false) (hc:ch t i≠37) (hb:ch t i≠32∧ch t i≠9∧ch t i≠10∧ch t i≠13):i=R:=by
 rw [← hq,hr,drop_ch h,blankP,if_neg hc,if_pos hb]
theorem bk_e (hq:blankP ((bl t).drop i) rm i=R) (h:¬ i<t.size):i=R:=by
 rw [← hq,drop_end h];cases rm <;> rfl
end
theorem blankP_le:∀ (l:List Nat) (b:Bool) (i:Nat),i≤blankP l b i∧blankP l b i≤i+l.length
 | [],b,i=>by cases b <;> simp [blankP]
 | c::l,true,i=>by
  have:=blankP_le l (decide (c≠10)) (i+1)
  simp only [blankP,List.length_cons];omega
 | c::l,false,i=>by
  have h1:=blankP_le l true (i+1)
  have h2:=blankP_le l false (i+1)
  simp only [blankP,List.length_cons]
  split
  ·omega
  split <;> omega
section
variable {t:ByteArray} {i:Nat} {b:List Nat} {R:List Nat × Nat × Bool}
theorem qd_e (hq:quotedP ((bl t).drop i) b i=R) (h:¬ i<t.size):R=([],i,false):=by rw [← hq,drop_end h,quotedP_nil]
theorem qd_q (hq:quotedP ((bl t).drop i) b i=R) (h:i<t.size) (hc:ch t i=34):R=(b,i+1,true):=by rw [← hq,drop_ch h,quotedP_cons,if_pos hc]
theorem qd_x (hq:quotedP ((bl t).drop i) b i=R) (h:i<t.size) (hc:ch t i≠34) (hx:b.length=1024∨ch t i<32∨126<ch t i):R=([],i,false):=by rw [← hq,drop_ch h,quotedP_cons,if_neg hc,if_pos hx]
theorem qd_s (hq:quotedP ((bl t).drop i) b i=R) (h:i<t.size) (hc:ch t i≠34) (hx:¬ (b.length=1024∨ch t i<32∨126<ch t i)) (hs:ch t i=92):slashP ((bl t).drop (i+1)) b (i+1)=R:=by rw [← hq,drop_ch h,quotedP_cons,if_neg hc,if_neg hx,if_pos hs]
theorem qd_n (hq:quotedP ((bl t).drop i) b i=R) (h:i<t.size) (hc:ch t i≠34) (hx:¬ (b.length=1024∨ch t i<32∨126<ch t i)) (hs:ch t i≠92):quotedP ((bl t).drop (i+1)) (b++[ch t i]) (i+1)=R:=by rw [← hq,drop_ch h,quotedP_cons,if_neg hc,if_neg hx,if_neg hs]
theorem sl_e (hq:slashP ((bl t).drop i) b i=R) (h:¬ i<t.size):R=([],i,false):=by rw [← hq,drop_end h];rfl
theorem sl_p (hq:slashP ((bl t).drop i) b i=R) (h:i<t.size) {x:Nat} (hx:(ch t i=34∨ch t i=92)∧x=ch t i∨ch t i=110∧x=10∨ch t i=116∧x=9):quotedP ((bl t).drop (i+1)) (b++[x]) (i+1)=R:=by
 rw [← hq,drop_ch h,slashP]
 rcases hx with ⟨hx,rfl⟩ | ⟨hx,rfl⟩ | ⟨hx,rfl⟩
 ·rw [if_pos hx]
 ·rw [if_neg (by omega),if_pos hx]
 ·rw [if_neg (by omega),if_neg (by omega),if_pos hx]
theorem sl_x (hq:slashP ((bl t).drop i) b i=R) (h:i<t.size) (hx:ch t i=120):firstP ((bl t).drop (i+1)) b (i+1)=R:=by
 rw [← hq,drop_ch h,slashP,if_neg (by omega),if_neg (by omega),if_neg (by omega),if_pos hx]
theorem sl_o (hq:slashP ((bl t).drop i) b i=R) (h:i<t.size) (hx:ch t i≠34∧ch t i≠92∧ch t i≠110∧ch t i≠116∧ch t i≠120):R=([],i,false):=by
 rw [← hq,drop_ch h,slashP,if_neg (by omega),if_neg (by omega),if_neg (by omega),if_neg (by omega)]
theorem fi_e (hq:firstP ((bl t).drop i) b i=R) (h:¬ i<t.size∨i<t.size∧hx (ch t i)<0):R=([],i,false):=by
 rw [← hq]
 rcases h with h | ⟨h,hh⟩
 ·rw [drop_end h];rfl
 ·rw [drop_ch h,firstP_n hh]
theorem fi_f (hq:firstP ((bl t).drop i) b i=R) (h:i<t.size) (hh:¬ hx (ch t i)<0) (h2:¬ i+1<t.size∨i+1<t.size∧hx (ch t (i+1))<0):R=([],i+1,false):=by
 rw [← hq,drop_ch h]
 rcases h2 with h2 | ⟨h2,h3⟩
 ·rw [drop_end h2,firstP_1,if_neg hh]
 ·rw [drop_ch h2,firstP_2,if_neg hh,if_pos h3]
theorem fi_n (hq:firstP ((bl t).drop i) b i=R) (h:i<t.size) (hh:¬ hx (ch t i)<0) (h2:i+1<t.size) (h3:¬ hx (ch t (i+1))<0) {x:Nat} (hx':(x:Int)=hx (ch t i) * 16+hx (ch t (i+1))):quotedP ((bl t).drop (i+1+1)) (b++[x]) (i+1+1)=R:=by
 rw [← hq,drop_ch h,drop_ch h2,firstP_2,if_neg hh,if_neg h3,← hx']
 rfl
end
theorem hx_lt (c:Nat):-1≤hx c∧hx c<16:=by unfold hx;split;omega;split <;> omega
theorem hx_two {c d:Nat} (h:¬ hx c<0) (h':¬ hx d<0):∃ z:Nat,(z:Int)=hx c * 16+hx d∧z<256:=by
 have h1:=hx_lt c
 have h2:=hx_lt d
 exact ⟨(hx c * 16+hx d).toNat,by omega,by omega⟩
theorem hx_mul {c:Nat}:-9223372036854775808≤hx c * 16∧hx c * 16≤9223372036854775807:=by have:=hx_lt c;omega
theorem hx_add {c d:Nat}:-9223372036854775808≤hx c * 16+hx d∧hx c * 16+hx d≤9223372036854775807:=by have:=hx_lt c;have:=hx_lt d;omega
/-- the signs -/
abbrev SG:List ByteArray:=[ByteArray.mk #[40],ByteArray.mk #[41],ByteArray.mk #[44],ByteArray.mk #[46],ByteArray.mk #[47],ByteArray.mk #[58,45],ByteArray.mk #[33,61]]
theorem SG_all:∀ k,k<7→(1≤(el SG k).size∧(el SG k).size≤2)∧ch (el SG k) 0≠34∧(if (el SG k).size=2 then (k=5∧ch (el SG k) 0=58∧ch (el SG k) 1=45)∨(k=6∧ch (el SG k) 0=33∧ch (el SG k) 1=61) else sign1 (ch (el SG k) 0)=8+k):=by decide +kernel
theorem SG_sz {k:Nat} (h:k<7):1≤(el SG k).size∧(el SG k).size≤2:=(SG_all k h).1
section
variable {t:ByteArray} {i k:Nat}
theorem nx_q (h:i<t.size) (hc:ch t i=34):nextP ((bl t).drop i) i=(⟨4,sN (quotedP ((bl t).drop (i+1)) [] (i+1)).1,i,(quotedP ((bl t).drop (i+1)) [] (i+1)).2.1⟩,(quotedP ((bl t).drop (i+1)) [] (i+1)).2.2):=by
 rw [drop_ch h,nextP,if_pos hc]
theorem sg_one (h:i<t.size) (hk:k<7) (hc:ch t i=ch (el SG k) 0) (h2:¬ (el SG k).size=2):nextP ((bl t).drop i) i=(⟨8+k,ByteArray.empty,i,i+1⟩,true):=by
 obtain ⟨_,h3,h4⟩:=SG_all k hk
 rw [if_neg h2,← hc] at h4
 rw [drop_ch h,nextP,if_neg (by omega),h4,if_pos (by omega)]
theorem head_drop {c:Nat} (h:¬ i<t.size∨ch t i≠c):((bl t).drop i).head? ≠some c:=by
 by_cases hi:i<t.size
 ·rw [drop_ch hi,List.head?_cons];intro e;cases e;omega
 ·rw [drop_end hi];intro e;cases e
theorem sg_open (h:i<t.size) (hk:k<7) (hc:ch t i=ch (el SG k) 0) (h2:(el SG k).size=2) (h5:i+1=t.size∨ch t (i+1)≠ch (el SG k) 1):nextP ((bl t).drop i) i=(⟨8+k,ByteArray.empty,i,i+1⟩,false):=by
 obtain ⟨_,h3,h4⟩:=SG_all k hk
 rw [if_pos h2,← hc] at h4
 rcases h4 with ⟨rfl,a,b⟩ | ⟨rfl,a,b⟩
 ·rw [drop_ch h,nextP,a,if_neg (by decide),if_neg (by decide),if_pos rfl,if_neg (head_drop (by omega))]
 ·rw [drop_ch h,nextP,a,if_neg (by decide),if_neg (by decide),if_neg (by decide),if_pos rfl,if_neg (head_drop (by omega))]
theorem sg_two (h:i<t.size) (hk:k<7) (hc:ch t i=ch (el SG k) 0) (h2:(el SG k).size=2) (h5:i+1<t.size) (h6:ch t (i+1)=ch (el SG k) 1):nextP ((bl t).drop i) i=(⟨8+k,ByteArray.empty,i,i+2⟩,true):=by
 obtain ⟨_,h3,h4⟩:=SG_all k hk
 rw [if_pos h2,← hc] at h4
 have hh:((bl t).drop (i+1)).head?=some (ch t (i+1)):=by rw [drop_ch h5];rfl
 rcases h4 with ⟨rfl,a,b⟩ | ⟨rfl,a,b⟩
 ·rw [drop_ch h,nextP,a,if_neg (by decide),if_neg (by decide),if_pos rfl,if_pos (by rw [hh,h6,b])]
 ·rw [drop_ch h,nextP,a,if_neg (by decide),if_neg (by decide),if_neg (by decide),if_pos rfl,if_pos (by rw [hh,h6,b])]
theorem sg_none (h:i<t.size) (h0:¬ ch t i=34) (hs:∀ j,j<7→¬ ch t i=ch (el SG j) 0):nextP ((bl t).drop i) i=wordT ((bl t).drop i) i:=by
 have h1:¬ ch t i=40:=hs 0 (by decide)
 have h2:¬ ch t i=41:=hs 1 (by decide)
 have h3:¬ ch t i=44:=hs 2 (by decide)
 have h4:¬ ch t i=46:=hs 3 (by decide)
 have h5:¬ ch t i=47:=hs 4 (by decide)
 have h6:¬ ch t i=58:=hs 5 (by decide)
 have h7:¬ ch t i=33:=hs 6 (by decide)
 rw [drop_ch h,nextP,if_neg h0,if_neg (by unfold sign1;rw [if_neg h1,if_neg h2,if_neg h3,if_neg h4,if_neg h5];decide),if_neg h6,if_neg h7]
/-- how far a word has been read -/
def WdI (t:ByteArray) (i:Nat) (num:Bool) (e:Nat):Prop:=i≤e∧e≤t.size∧e≤i+64∧wordN num 64 ((bl t).drop i)=e-i+wordN num (64-(e-i)) ((bl t).drop e)
/-- where it ends -/
def WdE (t:ByteArray) (i:Nat) (num:Bool) (e:Nat):Prop:=¬ e<t.size∨i+64≤e∨¬ (Go.QP.Lt (ch t e)∧(num=true→ch t e≤57))
theorem WdI.step {num:Bool} {e:Nat} (h:WdI t i num e) (h1:e<t.size) (h2:e<i+64) (h3:Go.QP.Lt (ch t e)) (h4:num=true→ch t e≤57):WdI t i num (e+1):=by
 obtain ⟨a,b,c,d⟩:=h
 refine ⟨by omega,by omega,by omega,?_⟩
 rw [d,drop_ch h1,show 64-(e-i)=(64-(e+1-i))+1 by omega,wordN,if_pos ⟨h3,h4⟩]
 omega
theorem WdI.fin {num:Bool} {e:Nat} (h:WdI t i num e) (he:WdE t i num e):wordN num 64 ((bl t).drop i)=e-i:=by
 obtain ⟨a,b,c,d⟩:=h
 rw [d]
 have:wordN num (64-(e-i)) ((bl t).drop e)=0:=by
  rcases he with he | he | he
  ·rw [drop_end he];cases 64-(e-i) <;> rfl
  ·rw [show 64-(e-i)=0 by omega];rfl
  ·by_cases h1:e<t.size
   ·rw [drop_ch h1]
    cases 64-(e-i) with
    | zero=>rfl
    | succ n=>rw [wordN,if_neg he]
   ·rw [drop_end h1];cases 64-(e-i) <;> rfl
 omega
theorem wd_text {num:Bool} {e:Nat} (h0:i<t.size) (hn:num=decide (Dg (ch t i))) (h:WdI t i num e) (he:WdE t i num e):sN (((bl t).drop i).take (wordN (decide (Dg (((bl t).drop i).headD 0))) 64 ((bl t).drop i)))=t.extract i e:=by
 have hh:((bl t).drop i).headD 0=ch t i:=by rw [drop_ch h0];rfl
 rw [hh,← hn,h.fin he,← bl_extract,sN_bl]
theorem wd_no {num:Bool} {e:Nat} (h0:i<t.size) (hn:num=decide (Dg (ch t i))) (h:WdI t i num e) (he:WdE t i num e) (hk:kind (t.extract i e)=0):wordT ((bl t).drop i) i=(Tk0,false):=by
 unfold wordT
 rw [wd_text h0 hn h he]
 exact if_pos hk
theorem wd_yes {num:Bool} {e:Nat} (h0:i<t.size) (hn:num=decide (Dg (ch t i))) (h:WdI t i num e) (he:WdE t i num e) (hk:¬ kind (t.extract i e)=0) (hr:Rsv (t.extract i e)):wordT ((bl t).drop i) i=(⟨kind (t.extract i e),ByteArray.empty,i,e⟩,true):=by
 unfold wordT
 rw [wd_text h0 hn h he]
 dsimp only
 rw [if_neg hk,if_pos hr,size_extract,show i+(min e t.size-i)=e by have:=h.1;have:=h.2.1;omega]
theorem wd_yes' {num:Bool} {e:Nat} (h0:i<t.size) (hn:num=decide (Dg (ch t i))) (h:WdI t i num e) (he:WdE t i num e) (hk:¬ kind (t.extract i e)=0) (hr:¬ Rsv (t.extract i e)):wordT ((bl t).drop i) i=(⟨kind (t.extract i e),t.extract i e,i,e⟩,true):=by
 unfold wordT
 rw [wd_text h0 hn h he]
 dsimp only
 rw [if_neg hk,if_neg hr,size_extract,show i+(min e t.size-i)=e by have:=h.1;have:=h.2.1;omega]
end
theorem quotedP_le:∀ (n:Nat) (l b:List Nat) (i:Nat),l.length≤n→i≤(quotedP l b i).2.1∧(quotedP l b i).2.1≤i+l.length
 | _,[],b,i,_=>by rw [quotedP_nil];simp
 | 0,c::l,b,i,h=>by rw [List.length_cons] at h;omega
 | n+1,c::l,b,i,h=>by
  rw [List.length_cons] at h
  rw [quotedP_cons,List.length_cons]
  split
  ·simp only;omega
  split
  ·simp only;omega
  split
  ·cases l with
   | nil=>simp only [slashP,List.length_nil];omega
   | cons d l1=>
    rw [List.length_cons] at h
    have ih:=fun b i=>quotedP_le n l1 b i (by omega)
    simp only [slashP,List.length_cons]
    split
    ·have:=ih (b++[d]) (i+1+1);omega
    split
    ·have:=ih (b++[10]) (i+1+1);omega
    split
    ·have:=ih (b++[9]) (i+1+1);omega
    split
    ·cases l1 with
     | nil=>simp only [firstP,List.length_nil];omega
     | cons e l2=>
      rw [List.length_cons] at h
      cases l2 with
      | nil=>rw [firstP_1];split <;> simp only [List.length_cons,List.length_nil] <;> omega
      | cons f l3=>
       rw [List.length_cons] at h
       rw [firstP_2]
       have:=quotedP_le n l3 (b++[(hx e * 16+hx f).toNat]) (i+1+1+2) (by omega)
       split
       ·simp only [List.length_cons];omega
       split <;> simp only [List.length_cons] <;> omega
    ·simp only;omega
  ·have:=quotedP_le n l (b++[c]) (i+1) (by omega);omega
theorem wordN_le (num:Bool):∀ (n:Nat) (l:List Nat),wordN num n l≤l.length
 | 0,_=>Nat.zero_le _
 | n+1,[]=>Nat.zero_le _
 | n+1,c::l=>by
  have:=wordN_le num n l
  rw [wordN,List.length_cons]
  split <;> omega
section
variable {t:ByteArray} {i:Nat}
theorem next_le (h:i<t.size):(nextP ((bl t).drop i) i).1.j≤t.size∧((nextP ((bl t).drop i) i).2=true→i<(nextP ((bl t).drop i) i).1.j):=by
 have hl:((bl t).drop (i+1)).length=t.size-(i+1):=by rw [List.length_drop,bl_len]
 rw [drop_ch h,nextP]
 split
 ·have:=quotedP_le _ ((bl t).drop (i+1)) [] (i+1) (Nat.le_refl _)
  simp only
  omega
 split
 ·simp only;omega
 split
 ·split
  ·rename_i hh
   have:i+1<t.size:=by
    rcases Nat.lt_or_ge (i+1) t.size with h1 | h1
    ·exact h1
    ·rw [drop_end (by omega)] at hh;cases hh
   simp only;omega
  ·simp only;omega
 split
 ·split
  ·rename_i hh
   have:i+1<t.size:=by
    rcases Nat.lt_or_ge (i+1) t.size with h1 | h1
    ·exact h1
    ·rw [drop_end (by omega)] at hh;cases hh
   simp only;omega
  ·simp only;omega
 ·unfold wordT
  dsimp only
  split
  ·exact ⟨Nat.zero_le _,fun h=>by cases h⟩
  ·rename_i hk
   rw [sN_size]
   dsimp only
   have h1:=kind_pos hk
   rw [sN_size] at h1
   have h2:(List.take (wordN (decide (Dg ((ch t i::(bl t).drop (i+1)).headD 0))) 64 (ch t i::(bl t).drop (i+1))) (ch t i::(bl t).drop (i+1))).length≤(ch t i::(bl t).drop (i+1)).length:=by rw [List.length_take];omega
   rw [List.length_cons,hl] at h2
   exact ⟨by omega,fun _=>by omega⟩
/-- where the cutting stands: what is left comes to what is told -/
def TkI (t:ByteArray) (R:List Tk × Tk × Nat) (n i:Nat) (jt:Int) (xs:List Tk):Prop:=
 i≤t.size∧t.size-i<n∧xs.length≤i∧(xs++(toksP n ((bl t).drop i) i jt).1,(toksP n ((bl t).drop i) i jt).2)=R
variable {R:List Tk × Tk × Nat} {n:Nat} {jt:Int} {xs:List Tk}
theorem TkI.start:TkI t (toksOf t) (t.size+1) (blankP (bl t) false 0) (-1) []:=by
 have:=blankP_le (bl t) false 0
 rw [bl_len] at this
 exact ⟨by omega,by omega,Nat.zero_le _,rfl⟩
theorem tk_succ (h:t.size-i<n):∃ m,n=m+1:=⟨n-1,by omega⟩
theorem TkI.end_ (h:TkI t R n i jt xs) (hi:¬ i<t.size):R=(xs,Tk0,i):=by
 obtain ⟨h1,h2,_,h3⟩:=h
 obtain ⟨m,rfl⟩:=tk_succ h2
 rw [← h3,drop_end hi,toksP,if_pos rfl,List.append_nil]
theorem tk_ne (hi:i<t.size):(bl t).drop i≠[]:=by rw [drop_ch hi];exact fun h=>by cases h
theorem TkI.joint (h:TkI t R n i jt xs) (hi:i<t.size) (hw:WordK (nextP ((bl t).drop i) i).1.k) (hj:jt=(i:Int)):R=(xs,Tk0,i):=by
 obtain ⟨h1,h2,_,h3⟩:=h
 obtain ⟨m,rfl⟩:=tk_succ h2
 rw [← h3,toksP,if_neg (tk_ne hi)]
 dsimp only
 rw [if_pos ⟨hw,hj⟩,List.append_nil]
theorem TkI.zero (h:TkI t R n i jt xs) (hi:i<t.size) (hw:¬ (WordK (nextP ((bl t).drop i) i).1.k∧jt=(i:Int))) (h2:(nextP ((bl t).drop i) i).2=false) (hk:(nextP ((bl t).drop i) i).1.k=0):R=(xs,(nextP ((bl t).drop i) i).1,i):=by
 obtain ⟨_,h4,_,h3⟩:=h
 obtain ⟨m,rfl⟩:=tk_succ h4
 rw [← h3,toksP,if_neg (tk_ne hi)]
 dsimp only
 rw [if_neg hw,if_pos h2,if_pos hk,List.append_nil]
theorem TkI.open_ (h:TkI t R n i jt xs) (hi:i<t.size) (hw:¬ (WordK (nextP ((bl t).drop i) i).1.k∧jt=(i:Int))) (h2:(nextP ((bl t).drop i) i).2=false) (hk:¬ (nextP ((bl t).drop i) i).1.k=0):R=(xs,(nextP ((bl t).drop i) i).1,(nextP ((bl t).drop i) i).1.j):=by
 obtain ⟨_,h4,_,h3⟩:=h
 obtain ⟨m,rfl⟩:=tk_succ h4
 rw [← h3,toksP,if_neg (tk_ne hi)]
 dsimp only
 rw [if_neg hw,if_pos h2,if_neg hk,List.append_nil]
theorem TkI.go (h:TkI t R n i jt xs) (hi:i<t.size) (hw:¬ (WordK (nextP ((bl t).drop i) i).1.k∧jt=(i:Int))) (h2:(nextP ((bl t).drop i) i).2=true) {p:Nat} (hp:p=blankP ((bl t).drop (nextP ((bl t).drop i) i).1.j) false (nextP ((bl t).drop i) i).1.j) {jt':Int} (hj:jt'=if WordK (nextP ((bl t).drop i) i).1.k then (((nextP ((bl t).drop i) i).1.j:Nat):Int) else -1):TkI t R (n-1) p jt' (xs++[(nextP ((bl t).drop i) i).1]):=by
 obtain ⟨h1,h4,h6,h3⟩:=h
 obtain ⟨m,rfl⟩:=tk_succ h4
 obtain ⟨n1,n2⟩:=next_le hi
 have n2:=n2 h2
 have n3:=blankP_le ((bl t).drop (nextP ((bl t).drop i) i).1.j) false (nextP ((bl t).drop i) i).1.j
 rw [← hp,List.length_drop,bl_len] at n3
 refine ⟨by omega,by omega,by rw [List.length_append,List.length_cons,List.length_nil];omega,?_⟩
 rw [← h3,toksP,if_neg (tk_ne hi)]
 dsimp only
 have e1:((bl t).drop i).drop ((nextP ((bl t).drop i) i).1.j-i)=(bl t).drop (nextP ((bl t).drop i) i).1.j:=by rw [List.drop_drop];congr 1;omega
 have e2:((bl t).drop (nextP ((bl t).drop i) i).1.j).drop (p-(nextP ((bl t).drop i) i).1.j)=(bl t).drop p:=by rw [List.drop_drop];congr 1;omega
 rw [if_neg hw,if_neg (by rw [h2];decide),e1,← hp,e2,← hj,show m+1-1=m by omega]
 simp
end
theorem el_last {α:Type} [Inhabited α] {xs:List α} {u:α} {m:Nat} (h:m=xs.length):el (xs++[u]) m=u:=by
 subst h
 rw [el_eq (by simp)];simp
end Go.QP
