/- Plain law: the document's reader and the program's way come to the same, in every state. -/
import Derived.Test.YtljfgmedbjlkaaaGreatRPD
namespace Go.QP
open Go.Eng
/-- a word may end at the place only where nothing of a word may go on -/
def Jn (r:RS) (l:List Nat) (i:Nat) (jt:Int):Prop:=jt=(i:Int)→Go.QP.Lt (hd l)→r.at_=5∨r.at_=6∨r.at_=8
section
variable {n:Nat} {r:RS} {l:List Nat} {i:Nat} {jt:Int}
/-- what comes behind a token -/
def Ih (n:Nat):Prop:=∀ (r:RS) (l:List Nat) (i:Nat) (jt:Int),l.length<n→r.at_≤8→Jn r l i jt→Sim (EE n r l i) (PR n r l i jt)
theorem ih_nx (ih:Ih n) (hn:l.length<n+1) (hl:l≠[]) {j:Nat} (hj:i<j) {r':RS} (h8:r'.at_≤8) {jt':Int} (hjn:Jn r' (dr l i (sk (dr l i j) j)) (sk (dr l i j) j) jt') :
  Sim (EE n r' (dr l i (sk (dr l i j) j)) (sk (dr l i j) j)) (PR n r' (dr l i (sk (dr l i j) j)) (sk (dr l i j) j) jt'):=by
 have h1:=(sk_le (dr l i j) j).1
 have h2:0<l.length:=List.length_pos_iff.2 hl
 exact ih _ _ _ _ (by rw [dr_len];omega) h8 hjn
theorem jn_sign {r:RS} {l:List Nat} {i:Nat}:Jn r l i (-1):=fun h=>by omega
theorem jn_state {r:RS} {l:List Nat} {i:Nat} {jt:Int} (h:r.at_=5∨r.at_=6∨r.at_=8):Jn r l i jt:=fun _ _=>h
/-- a word that ends where none may: the place is the same on both sides -/
theorem sim_word (ih0:0<n) {r':RS} {p:Nat} (h:Go.QP.Lt (hd (dr l i p))):Sim (.bad p) (PR n r' (dr l i (sk (dr l i p) p)) (sk (dr l i p) p) (p:Int)):=by
 rw [sk_lt h]
 obtain ⟨m,rfl⟩:∃ m,n=m+1:=⟨n-1,by omega⟩
 rw [pr_word rfl h]
 exact .inl rfl
theorem joint_no (hJ:Jn r l i jt) (h:¬ (r.at_=5∨r.at_=6∨r.at_=8)):¬ (jt=(i:Int)∧Go.QP.Lt (hd l)):=fun ⟨a,b⟩=>h (hJ a b)
/-- where a term must stand -/
theorem sim_term (ih:Ih n) (hn:l.length<n+1) (hJ:Jn r l i jt) (hat:r.at_=0∧¬ Sm (hd l)∨r.at_=4∨r.at_=7) (f:Tm→RS) (h8:∀ x,(f x).at_=5∨(f x).at_=6∨(f x).at_=8)
  (ht:∀ k s x,termT k s=some x→(r.at_=0→k≠1)→k≠7→takeS r k s=some (f x)) (hno:∀ k s,termT k s=none→¬ (k=5∨k=6∨k=7)→takeS r k s=none) (h57:∀ k s,(k=5∨k=6∨k=7)→r.at_≠0→takeS r k s=none) :
  Sim (match termR l i with | .bad p=>.bad p | .ok x j=>EE n (f x) (dr l i (sk (dr l i j) j)) (sk (dr l i j) j)) (PR (n+1) r l i jt):=by
 have hj:=joint_no hJ (by omega)
 have hends:=ends_at (r:=r) (by omega)
 have h0n:∀ k:Nat,(k=1→Sm (hd l))→r.at_=0→k≠1:=fun k hk h0 h1=>by
  rcases hat with h | h | h
  ·exact h.2 (hk h1)
  ·omega
  ·omega
 rcases term_next l i with ⟨x,j,k,s,h1,h2,h3,h4,h5,h6,h7⟩ | ⟨p,h1,h2⟩
 ·rw [h1,pr_true h7 hj h2 (ht k s x h3 (h0n k h5) h4)]
  exact ih_nx ih hn h7 h6 (by have:=h8 x;omega) (jn_state (h8 x))
 ·rw [h1]
  rcases h2 with ⟨rfl,h⟩ | ⟨k,s,x,a,b,c,d,e,f',g⟩ | ⟨k,s,a,b,c,d,e⟩ | ⟨a,b,c,d⟩
  ·skip
   rcases h with rfl | h | h
   ·rw [pr_nil];exact sim_bad hends
   ·by_cases hl:l=[]
    ·subst hl;rw [pr_nil];exact sim_bad hends
    ·rw [pr_open hl hj h.1]
     by_cases k0:(nextP l p).1.k=0
     ·rw [if_pos k0];exact sim_bad hends
     rw [if_neg k0,if_neg h.2]
     by_cases k14:(nextP l p).1.k=14
     ·rw [if_pos k14,if_neg (by omega)];exact sim_bad hends
     ·rw [if_neg k14];exact sim_bad hends
   ·by_cases hl:l=[]
    ·subst hl;rw [pr_nil];exact sim_bad hends
    ·rw [pr_none hl hj h.1 (hno _ _ h.2.1 h.2.2),if_neg (fun hh=>h.2.2 hh.1)];exact sim_bad hends
  ·rw [pr_true g hj a (ht k s x c (h0n k d) (by unfold WordK at b;intro h7;subst h7;cases c)),if_pos b]
   have:0<l.length:=List.length_pos_iff.2 g
   exact sim_word (by omega) f'
  ·have h0:r.at_≠0:=fun h0=>by
    rcases hat with h | h | h
    ·exact h.2 d
    ·omega
    ·omega
   rw [pr_none e hj (by rw [a]) (by rw [a];exact h57 k s b h0),a]
   simp only
   rw [if_pos ⟨b,by unfold wantsS;omega⟩]
   exact rfl
  ·rw [pr_open d hj a,if_neg (by omega),if_pos b,if_pos (by unfold wantsS;omega),c]
   exact rfl
/-- where a literal has come to its end -/
theorem sim_end (ih:Ih n) (hn:l.length<n+1) (hJ:Jn r l i jt) (hat:r.at_=2∨r.at_=3∨r.at_=8) (h40:r.at_=8∨hd l≠40) (h33:r.at_≠2∨hd l≠33)
  (ht:hd l=44→(endsS r).q.length<256→takeS r 10 ByteArray.empty=some ⟨(endsS r).q,0,(endsS r).now⟩) (hno:¬ (endsS r).q.length<256→takeS r 10 ByteArray.empty=none) :
  Sim (if hd l=44 then (if (endsS r).q.length<256 then EE n ⟨(endsS r).q,0,(endsS r).now⟩ (dr l i (sk (dr l i (i+1)) (i+1))) (sk (dr l i (i+1)) (i+1)) else .bad i) else .ok (endsS r).q i) (PR (n+1) r l i jt):=by
 have hends:(endsS r).at_=8:=by
  unfold endsS
  split
  ·rfl
  split
  ·rfl
  ·omega
 by_cases h44:hd l=44
 ·rw [if_pos h44]
  have hl:=hd_lt h44 (by decide)
  have hj:¬ (jt=(i:Int)∧Go.QP.Lt (hd l)):=fun h=>by have:=h.2;rw [h44] at this;exact absurd this (by decide)
  by_cases hq:(endsS r).q.length<256
  ·rw [if_pos hq,pr_true hl hj (sign_44 h44) (ht h44 hq),if_neg (by decide)]
   exact ih_nx ih hn hl (by omega) (by show 0≤8;omega) jn_sign
  ·rw [if_neg hq,pr_none hl hj (by rw [sign_44 h44]) (by rw [sign_44 h44];exact hno hq),sign_44 h44]
   simp only
   rw [if_neg (by omega),h44]
   exact sim_44
 ·rw [if_neg h44]
  by_cases hl:l=[]
  ·subst hl;rw [pr_nil];exact sim_ok hends (by decide)
  by_cases hj:jt=(i:Int)∧Go.QP.Lt (hd l)
  ·rw [pr_word hj.1 hj.2];exact .inr ⟨_,rfl⟩
  ·rw [pr_other hl hj (by omega) (by
    by_cases h33':hd l=33
    ·right;right;omega
    ·by_cases h4:hd l=40
     ·rw [sign_40 h4];exact .inr (.inl rfl)
     ·by_cases h5:hd l=41
      ·rw [sign_41 h5];exact .inr (.inl rfl)
      ·exact .inl (sign_no hl ⟨h4,h5,h44,h33'⟩).2.2.2) ?_]
   ·exact sim_ok hends h44
   ·intro hx
    by_cases h4:hd l=40
    ·rw [sign_40 h4]
     have h8:r.at_=8:=by omega
     unfold takeS
     rw [if_neg (by omega),if_neg (by omega),if_neg (by omega),if_neg (by omega),if_neg (by omega),if_neg (by omega),if_neg (by omega),if_neg (fun h=>by have:=h.1;simp at this)]
    by_cases h5:hd l=41
    ·rw [sign_41 h5]
     unfold takeS
     rw [if_neg (by omega),if_neg (by omega)]
     split
     ·rw [if_neg (by simp),if_neg (fun h=>by have:=h.1;simp at this),if_neg (fun h=>by have:=h.1;simp at this)]
     rw [if_neg (by omega),if_neg (by omega),if_neg (by omega),if_neg (by omega),if_neg (fun h=>by have:=h.1;simp at this)]
    by_cases h33':hd l=33
    ·have h2:r.at_≠2:=by omega
     by_cases h61:hd (dr l i (i+1))=61
     ·rw [sign_33 h33' h61]
      unfold takeS
      rw [if_neg (by omega),if_neg (by omega)]
      split
      ·rw [if_neg (by simp),if_neg (fun h=>h2 h.2),if_neg (fun h=>by have:=h.1;simp at this)]
      rw [if_neg (by omega),if_neg (by omega),if_neg (by omega),if_neg (by omega),if_neg (fun h=>by have:=h.1;simp at this)]
     ·rw [sign_33n h33' h61] at hx;cases hx
    ·exact take_other (by omega) (sign_no hl ⟨h4,h5,h44,h33'⟩)
end
end Go.QP
namespace Go.QP
open Go.Eng
theorem ee_pr:∀ n:Nat,Ih n
 | 0,r,l,i,jt,h,_,_=>absurd h (Nat.not_lt_zero _)
 | n+1,r,l,i,jt,hn,h8,hJ=>by
  have ih:=ee_pr n
  obtain ⟨q,a,now⟩:=r
  have hcase:a=0∨a=1∨a=2∨a=3∨a=4∨a=5∨a=6∨a=7∨a=8:=by
   have:a≤8:=h8
   omega
  rcases hcase with rfl | rfl | rfl | rfl | rfl | rfl | rfl | rfl | rfl
  ·-- a literal
   by_cases hs:Sm (hd l)
   ·have hl:l≠[]:=lt_ne (.inl hs)
    have hj:=joint_no hJ (by show ¬ ((0:Nat)=5∨(0:Nat)=6∨(0:Nat)=8);decide)
    have he:EE (n+1) ⟨q,0,now⟩ l i=match runR l i with
      | .bad p=>.bad p
      | .ok s j=>if s.toList=NOT.toList then EE n ⟨q,1,{ now with kind:=2 }⟩ (dr l i (sk (dr l i j) j)) (sk (dr l i j) j) else if Rsv s then .bad j else EE n ⟨q,2,{ now with pred:=s }⟩ (dr l i (sk (dr l i j) j)) (sk (dr l i j) j):=by
     rw [EE]
     simp only
     rw [if_pos trivial,if_neg (not_not_intro hs)]
     rfl
    rw [he]
    obtain ⟨w1,w2,w3⟩:=wordT_small (i:=i) hs
    rw [w2] at w1
    have hp:1≤wordN false 64 l:=wordN_pos (b:=false) (n:=63) ⟨.inl hs,fun h=>by cases h⟩
    rcases wordN_65 false l with ⟨h1,h2,h3,h4,_⟩ | ⟨h1,h2,h3⟩
    ·have hsz:(sN (l.take 64)).size=64:=by rw [sN_size,List.length_take];omega
     have ne:∀ z:ByteArray,z.size<64→¬ (sN (l.take 64)).toList=z.toList:=fun z hz h=>by rw [bytes_ext h] at hsz;omega
     rw [h2,if_neg (ne _ (by decide)),if_neg (ne _ (by decide)),if_neg (ne _ (by decide))] at w3
     have hr:¬ Rsv (sN (l.take 64)):=fun h=>by have:=kind_rsv h;omega
     rw [h2,w3,if_neg hr] at w1
     have hrun:runR l i= .bad (i+64):=by unfold runR;rw [if_pos h1]
     rw [hrun,pr_true (r':=⟨q,2,{ now with pred:=sN (l.take 64) }⟩) hl hj w1 (by rw [take0,if_neg (by decide),if_pos rfl]),if_pos (by decide)]
     refine sim_word (by have:=List.length_pos_iff.2 hl;omega) ?_
     unfold dr;rw [show i+64-i=64 by omega];exact h4
    ·rw [h2] at w1 w3 h3
     have hrun:runR l i= .ok (sN (l.take (wordN false 65 l))) (i+wordN false 65 l):=by unfold runR;rw [if_neg (by omega)]
     have hnl:¬ Go.QP.Lt (hd (dr l i (i+wordN false 65 l))):=by
      unfold dr
      rw [show i+wordN false 65 l-i=wordN false 65 l by omega]
      exact fun h=>h3 ⟨h,fun h=>by cases h⟩
     have hJ2:∀ r':RS,Jn r' (dr l i (sk (dr l i (i+wordN false 65 l)) (i+wordN false 65 l))) (sk (dr l i (i+wordN false 65 l)) (i+wordN false 65 l)) (((i+wordN false 65 l:Nat)):Int):=fun r' hji hlt=>by
      exfalso
      have h5:=(sk_le (dr l i (i+wordN false 65 l)) (i+wordN false 65 l)).1
      have h6:sk (dr l i (i+wordN false 65 l)) (i+wordN false 65 l)=i+wordN false 65 l:=by omega
      rw [h6] at hlt
      exact hnl hlt
     rw [hrun]
     simp only
     by_cases hnot:(sN (l.take (wordN false 65 l))).toList=NOT.toList
     ·rw [if_pos hnot]
      have hi:¬ (sN (l.take (wordN false 65 l))).toList=INPUT.toList:=by rw [hnot];decide +kernel
      have ho:¬ (sN (l.take (wordN false 65 l))).toList=OUTPUT.toList:=by rw [hnot];decide +kernel
      rw [if_neg hi,if_neg ho,if_pos hnot] at w3
      rw [w3] at w1
      rw [pr_true (r':=⟨q,1,{ now with kind:=2 }⟩) hl hj w1 (by rw [take0,if_pos rfl]),if_pos (by decide)]
      exact ih_nx ih hn hl (by omega) (by show 1≤8;omega) (hJ2 _)
     ·rw [if_neg hnot]
      by_cases hr:Rsv (sN (l.take (wordN false 65 l)))
      ·rw [if_pos hr]
       have hk5:kind (sN (l.take (wordN false 65 l)))=5∨kind (sN (l.take (wordN false 65 l)))=6:=by
        rcases hr with h | h | h
        ·rw [w3,if_pos h];exact .inl rfl
        ·rw [w3]
         split
         ·exact .inl rfl
         ·first | exact .inr rfl | (rw [if_pos h];exact .inr rfl)
        ·exact absurd h hnot
       rw [pr_none hl hj (by rw [w1]) (by rw [w1];simp only;rw [take0,if_neg (by omega),if_neg (by omega)];unfold termT;rw [if_neg (by omega),if_neg (by omega)];rfl),w1]
       simp only
       rw [if_pos ⟨by omega,by unfold wantsS;exact .inl rfl⟩]
       exact rfl
      ·rw [if_neg hr]
       have hk1:kind (sN (l.take (wordN false 65 l)))=1:=by rw [w3,if_neg (fun h=>hr (.inl h)),if_neg (fun h=>hr (.inr (.inl h))),if_neg (fun h=>hr (.inr (.inr h)))]
       rw [hk1,if_neg hr] at w1
       rw [pr_true (r':=⟨q,2,{ now with pred:=sN (l.take (wordN false 65 l)) }⟩) hl hj w1 (by rw [take0,if_neg (by decide),if_pos rfl]),if_pos (by decide)]
       exact ih_nx ih hn hl (by omega) (by show 2≤8;omega) (hJ2 _)
   ·have he:EE (n+1) ⟨q,0,now⟩ l i=match termR l i with | .bad p=>.bad p | .ok x j=>EE n ⟨q,6,⟨3,ByteArray.empty,[],x,Tm0⟩⟩ (dr l i (sk (dr l i j) j)) (sk (dr l i j) j):=by
     rw [EE]
     simp only
     rw [if_pos trivial,if_pos hs]
     rfl
    rw [he]
    refine sim_term ih hn hJ (.inl ⟨rfl,hs⟩) (fun x=>⟨q,6,⟨3,ByteArray.empty,[],x,Tm0⟩⟩) (fun x=>.inr (.inl rfl)) (fun k s x h h1 h7=>?_) (fun k s h h5=>?_) (fun k s h h0=>absurd rfl h0)
    ·rw [take0,if_neg h7,if_neg (h1 rfl),h];rfl
    ·rw [take0,if_neg (by omega),if_neg (fun h1=>by subst h1;cases h),h];rfl
  ·-- a name behind not
   have hj:=joint_no hJ (by show ¬ ((1:Nat)=5∨(1:Nat)=6∨(1:Nat)=8);decide)
   have he:EE (n+1) ⟨q,1,now⟩ l i=match nameR l i with | .bad p=>.bad p | .ok s j=>EE n ⟨q,3,{ now with pred:=s }⟩ (dr l i (sk (dr l i j) j)) (sk (dr l i j) j):=by
    rw [EE]
    simp only
    rw [if_neg (by decide),if_pos trivial]
    rfl
   have t1:∀ k s,takeS ⟨q,1,now⟩ k s=if k=1 then some ⟨q,3,{ now with pred:=s }⟩ else none:=fun k s=>rfl
   have hends:=ends_at (r:=(⟨q,1,now⟩:RS)) (.inr (.inl rfl))
   rw [he]
   rcases name_next l i with ⟨s,j,h1,h2,h3,h4,h5⟩ | ⟨p,h1,h2⟩
   ·rw [h1,pr_true h5 hj h2 (by rw [t1,if_pos rfl]),if_pos (by decide)]
    refine ih_nx ih hn h5 h4 (by show 3≤8;omega) fun hji hlt=>?_
    exfalso
    have h6:=(sk_le (dr l i j) j).1
    have h7:sk (dr l i j) j=j:=by omega
    rw [h7] at hlt
    exact h3 hlt
   ·rw [h1]
    rcases h2 with ⟨rfl,h⟩ | ⟨s,a,b,c,d⟩ | ⟨k,s,a,b,c⟩
    ·by_cases hl:l=[]
     ·subst hl;rw [pr_nil];exact sim_bad hends
     have hk1:(nextP l p).1.k≠1∧((nextP l p).1.k=5∨(nextP l p).1.k=6∨(nextP l p).1.k=7→False):=not_small hl h
     cases hx:(nextP l p).2 with
     | false=>
      rw [pr_open hl hj hx]
      by_cases k0:(nextP l p).1.k=0
      ·rw [if_pos k0];exact sim_bad hends
      rw [if_neg k0]
      by_cases k4:(nextP l p).1.k=4
      ·rw [if_pos k4,if_neg (show ¬ wantsS 1 4 by decide)];exact sim_bad hends
      rw [if_neg k4]
      by_cases k14:(nextP l p).1.k=14
      ·rw [if_pos k14,if_neg (show ¬ ((1:Nat)=2∨(1:Nat)=6) by decide)];exact sim_bad hends
      ·rw [if_neg k14];exact sim_bad hends
     | true=>
      rw [pr_none hl hj hx (by rw [t1,if_neg hk1.1]),if_neg (fun hh=>hk1.2 hh.1)]
      exact sim_bad hends
    ·rw [pr_true d hj a (by rw [t1,if_pos rfl]),if_pos (by decide)]
     exact sim_word (by have:=List.length_pos_iff.2 d;omega) c
    ·rw [pr_none c hj (by rw [a]) (by rw [a,t1,if_neg (by simp only;omega)]),a]
     simp only
     rw [if_pos ⟨b,by decide⟩]
     exact rfl
  ·-- behind a name that begins a literal
   have hj:¬ Go.QP.Lt (hd l)∨¬ jt=(i:Int):=by
    by_cases h:jt=(i:Int)
    ·exact .inl fun hlt=>by have:=hJ h hlt;simp at this
    ·exact .inr h
   have hj':¬ (jt=(i:Int)∧Go.QP.Lt (hd l)):=fun h=>hj.elim (fun h'=>h' h.2) fun h'=>h' h.1
   have t2:∀ k s,takeS ⟨q,2,now⟩ k s=if k=8 then some ⟨q,4,{ now with kind:=1 }⟩ else if k=14∧(2:Nat)=2 then some ⟨q,7,⟨3,ByteArray.empty,[],(false,now.pred),Tm0⟩⟩ else if k=10∧q.length+1<256 then some { endsS ⟨q,2,now⟩ with at_:=0 } else none:=fun k s=>rfl
   have he:EE (n+1) ⟨q,2,now⟩ l i=if hd l=33 then (if hd (dr l i (i+1))=61 then EE n ⟨q,7,⟨3,ByteArray.empty,[],(false,now.pred),Tm0⟩⟩ (dr l i (sk (dr l i (i+2)) (i+2))) (sk (dr l i (i+2)) (i+2)) else .bad (i+1))
     else if hd l=40 then EE n ⟨q,4,{ now with kind:=1 }⟩ (dr l i (sk (dr l i (i+1)) (i+1))) (sk (dr l i (i+1)) (i+1))
     else (if hd l=44 then (if (endsS ⟨q,2,now⟩).q.length<256 then EE n ⟨(endsS ⟨q,2,now⟩).q,0,(endsS ⟨q,2,now⟩).now⟩ (dr l i (sk (dr l i (i+1)) (i+1))) (sk (dr l i (i+1)) (i+1)) else .bad i) else .ok (endsS ⟨q,2,now⟩).q i):=by
    rw [EE]
    simp only
    rw [if_neg (by decide),if_neg (by decide),if_pos trivial]
   rw [he]
   by_cases h33:hd l=33
   ·rw [if_pos h33]
    have hl:=hd_lt h33 (by decide)
    by_cases h61:hd (dr l i (i+1))=61
    ·rw [if_pos h61,pr_true hl hj' (sign_33 h33 h61) (by rw [t2,if_neg (by decide),if_pos ⟨rfl,rfl⟩]),if_neg (by decide)]
     exact ih_nx ih hn hl (by omega) (by show 7≤8;omega) jn_sign
    ·rw [if_neg h61,pr_open hl hj' (by rw [sign_33n h33 h61]),sign_33n h33 h61]
     simp only
     rw [if_neg (by decide),if_neg (by decide),if_pos trivial,if_pos (.inl trivial)]
     exact rfl
   ·rw [if_neg h33]
    by_cases h40:hd l=40
    ·rw [if_pos h40,pr_true (hd_lt h40 (by decide)) hj' (sign_40 h40) (by rw [t2,if_pos rfl]),if_neg (by decide)]
     exact ih_nx ih hn (hd_lt h40 (by decide)) (by omega) (by show 4≤8;omega) jn_sign
    ·rw [if_neg h40]
     have hq:(endsS (⟨q,2,now⟩:RS)).q.length=q.length+1:=by simp [endsS,doneS]
     refine sim_end ih hn hJ (.inl rfl) (.inr h40) (.inr h33) (fun _ h=>?_) (fun h=>?_)
     ·rw [t2,if_neg (by decide),if_neg (fun h=>by simp at h),if_pos ⟨rfl,by omega⟩]
     ·rw [t2,if_neg (by decide),if_neg (fun h=>by simp at h),if_neg (fun h'=>by omega)]
  ·-- behind a name behind not
   have hj':¬ (jt=(i:Int)∧Go.QP.Lt (hd l)):=fun h=>by have:=hJ h.1 h.2;simp at this
   have t3:∀ k s,takeS ⟨q,3,now⟩ k s=if k=8 then some ⟨q,4,now⟩ else if k=14∧(3:Nat)=2 then some ⟨q,7,⟨3,ByteArray.empty,[],(false,now.pred),Tm0⟩⟩ else if k=10∧q.length+1<256 then some { endsS ⟨q,3,now⟩ with at_:=0 } else none:=fun k s=>rfl
   have he:EE (n+1) ⟨q,3,now⟩ l i=if hd l=40 then EE n ⟨q,4,now⟩ (dr l i (sk (dr l i (i+1)) (i+1))) (sk (dr l i (i+1)) (i+1))
     else (if hd l=44 then (if (endsS ⟨q,3,now⟩).q.length<256 then EE n ⟨(endsS ⟨q,3,now⟩).q,0,(endsS ⟨q,3,now⟩).now⟩ (dr l i (sk (dr l i (i+1)) (i+1))) (sk (dr l i (i+1)) (i+1)) else .bad i) else .ok (endsS ⟨q,3,now⟩).q i):=by
    rw [EE]
    simp only
    rw [if_neg (by decide),if_neg (by decide),if_neg (by decide),if_pos trivial]
   rw [he]
   by_cases h40:hd l=40
   ·rw [if_pos h40,pr_true (hd_lt h40 (by decide)) hj' (sign_40 h40) (by rw [t3,if_pos rfl]),if_neg (by decide)]
    exact ih_nx ih hn (hd_lt h40 (by decide)) (by omega) (by show 4≤8;omega) jn_sign
   ·rw [if_neg h40]
    have hq:(endsS (⟨q,3,now⟩:RS)).q.length=q.length+1:=by simp [endsS,doneS]
    refine sim_end ih hn hJ (.inr (.inl rfl)) (.inr h40) (.inl (by show (3:Nat)≠2;decide)) (fun _ h=>?_) (fun h=>?_)
    ·rw [t3,if_neg (by decide),if_neg (fun h=>by simp at h),if_pos ⟨rfl,by omega⟩]
    ·rw [t3,if_neg (by decide),if_neg (fun h=>by simp at h),if_neg (fun h'=>by omega)]
  ·-- a term of an atom
   have he:EE (n+1) ⟨q,4,now⟩ l i=match termR l i with | .bad p=>.bad p | .ok x j=>EE n ⟨q,5,{ now with args:=now.args++[x] }⟩ (dr l i (sk (dr l i j) j)) (sk (dr l i j) j):=by
    rw [EE]
    simp only
    rw [if_neg (by decide),if_neg (by decide),if_neg (by decide),if_neg (by decide),if_pos trivial]
    rfl
   rw [he]
   refine sim_term ih hn hJ (.inr (.inl rfl)) (fun x=>⟨q,5,{ now with args:=now.args++[x] }⟩) (fun x=>.inl rfl) (fun k s x h _ _=>?_) (fun k s h _=>?_) (fun k s h _=>?_)
   ·rw [take4,h];rfl
   ·rw [take4,h];rfl
   ·rw [take4];unfold termT;rw [if_neg (by omega),if_neg (by omega)];rfl
  ·-- behind a term
   have t5:∀ k s,takeS ⟨q,5,now⟩ k s=if k=10∧now.args.length<16 then some ⟨q,4,now⟩ else if k=9 then some (doneS ⟨q,5,now⟩) else none:=fun k s=>rfl
   have hends:=ends_at (r:=(⟨q,5,now⟩:RS)) (by simp)
   have he:EE (n+1) ⟨q,5,now⟩ l i=if hd l=44 then (if now.args.length<16 then EE n ⟨q,4,now⟩ (dr l i (sk (dr l i (i+1)) (i+1))) (sk (dr l i (i+1)) (i+1)) else .bad i) else if hd l=41 then EE n (doneS ⟨q,5,now⟩) (dr l i (sk (dr l i (i+1)) (i+1))) (sk (dr l i (i+1)) (i+1)) else .bad i:=by
    rw [EE]
    simp only
    rw [if_neg (by decide),if_neg (by decide),if_neg (by decide),if_neg (by decide),if_neg (by decide),if_pos trivial]
   rw [he]
   by_cases h44:hd l=44
   ·have hl:=hd_lt h44 (by decide)
    have hj:¬ (jt=(i:Int)∧Go.QP.Lt (hd l)):=fun h=>by have:=h.2;rw [h44] at this;exact absurd this (by decide)
    rw [if_pos h44]
    by_cases hq:now.args.length<16
    ·rw [if_pos hq,pr_true hl hj (sign_44 h44) (by rw [t5,if_pos ⟨rfl,hq⟩]),if_neg (by decide)]
     exact ih_nx ih hn hl (by omega) (by show 4≤8;omega) jn_sign
    ·rw [if_neg hq,pr_none hl hj (by rw [sign_44 h44]) (by rw [sign_44 h44,t5,if_neg (fun h=>hq h.2),if_neg (show ¬ (10:Nat)=9 by decide)]),sign_44 h44]
     simp only
     rw [if_neg (by omega)]
     exact sim_bad hends
   rw [if_neg h44]
   by_cases h41:hd l=41
   ·have hl:=hd_lt h41 (by decide)
    have hj:¬ (jt=(i:Int)∧Go.QP.Lt (hd l)):=fun h=>by have:=h.2;rw [h41] at this;exact absurd this (by decide)
    rw [if_pos h41,pr_true hl hj (sign_41 h41) (by rw [t5,if_neg (fun h=>by simp at h),if_pos rfl]),if_neg (by decide)]
    exact ih_nx ih hn hl (by omega) (by show 8≤8;omega) jn_sign
   ·rw [if_neg h41]
    by_cases hl:l=[]
    ·subst hl;rw [pr_nil];exact sim_bad hends
    by_cases hj:jt=(i:Int)∧Go.QP.Lt (hd l)
    ·rw [pr_word hj.1 hj.2];exact .inl rfl
    ·rw [pr_other hl hj (by simp) (.inr (.inr (by simp))) fun hx=>?_]
     ·exact sim_bad hends
     ·have hk:=sign_no2 (i:=i) hl h44 h41
      rw [t5,if_neg (fun h=>hk.2 h.1),if_neg hk.1]
  ·-- behind the left term
   have t6:∀ k s,takeS ⟨q,6,now⟩ k s=if k=14 then some ⟨q,7,now⟩ else none:=fun k s=>rfl
   have hends:=ends_at (r:=(⟨q,6,now⟩:RS)) (by simp)
   have he:EE (n+1) ⟨q,6,now⟩ l i=if hd l=33 then (if hd (dr l i (i+1))=61 then EE n ⟨q,7,now⟩ (dr l i (sk (dr l i (i+2)) (i+2))) (sk (dr l i (i+2)) (i+2)) else .bad (i+1)) else .bad i:=by
    rw [EE]
    simp only
    rw [if_neg (by decide),if_neg (by decide),if_neg (by decide),if_neg (by decide),if_neg (by decide),if_neg (by decide),if_pos trivial]
   rw [he]
   by_cases h33:hd l=33
   ·have hl:=hd_lt h33 (by decide)
    have hj:¬ (jt=(i:Int)∧Go.QP.Lt (hd l)):=fun h=>by have:=h.2;rw [h33] at this;exact absurd this (by decide)
    rw [if_pos h33]
    by_cases h61:hd (dr l i (i+1))=61
    ·rw [if_pos h61,pr_true hl hj (sign_33 h33 h61) (by rw [t6,if_pos rfl]),if_neg (by decide)]
     exact ih_nx ih hn hl (by omega) (by show 7≤8;omega) jn_sign
    ·rw [if_neg h61,pr_open hl hj (by rw [sign_33n h33 h61]),sign_33n h33 h61]
     simp only
     rw [if_neg (by decide),if_neg (by decide),if_pos trivial,if_pos (.inr trivial)]
     exact rfl
   ·rw [if_neg h33]
    by_cases hl:l=[]
    ·subst hl;rw [pr_nil];exact sim_bad hends
    by_cases hj:jt=(i:Int)∧Go.QP.Lt (hd l)
    ·rw [pr_word hj.1 hj.2];exact .inl rfl
    ·have hk:=sign_no3 (i:=i) hl h33
     rw [pr_other hl hj (by simp) (.inl hk) fun hx=>?_]
     ·exact sim_bad hends
     ·rw [t6,if_neg hk]
  ·-- the right term
   have he:EE (n+1) ⟨q,7,now⟩ l i=match termR l i with | .bad p=>.bad p | .ok x j=>EE n (doneS ⟨q,7,{ now with right:=x }⟩) (dr l i (sk (dr l i j) j)) (sk (dr l i j) j):=by
    rw [EE]
    simp only
    rw [if_neg (by decide),if_neg (by decide),if_neg (by decide),if_neg (by decide),if_neg (by decide),if_neg (by decide),if_neg (by decide),if_pos trivial]
    rfl
   rw [he]
   refine sim_term ih hn hJ (.inr (.inr rfl)) (fun x=>doneS ⟨q,7,{ now with right:=x }⟩) (fun x=>.inr (.inr rfl)) (fun k s x h _ _=>?_) (fun k s h _=>?_) (fun k s h _=>?_)
   ·rw [take7,h];rfl
   ·rw [take7,h];rfl
   ·rw [take7];unfold termT;rw [if_neg (by omega),if_neg (by omega)];rfl
  ·-- behind a literal
   have t8:∀ k s,takeS ⟨q,8,now⟩ k s=if k=10∧q.length<256 then some ⟨q,0,now⟩ else none:=fun k s=>rfl
   have he:EE (n+1) ⟨q,8,now⟩ l i=if hd l=44 then (if (endsS ⟨q,8,now⟩).q.length<256 then EE n ⟨(endsS ⟨q,8,now⟩).q,0,(endsS ⟨q,8,now⟩).now⟩ (dr l i (sk (dr l i (i+1)) (i+1))) (sk (dr l i (i+1)) (i+1)) else .bad i) else .ok (endsS ⟨q,8,now⟩).q i:=by
    rw [EE]
    simp only
    rw [if_neg (by decide),if_neg (by decide),if_neg (by decide),if_neg (by decide),if_neg (by decide),if_neg (by decide),if_neg (by decide),if_neg (by decide)]
    rfl
   rw [he]
   refine sim_end ih hn hJ (.inr (.inr rfl)) (.inl rfl) (.inl (by show (8:Nat)≠2;decide)) (fun _ h=>?_) (fun h=>?_)
   ·rw [t8,if_pos ⟨rfl,h⟩];rfl
   ·rw [t8,if_neg (fun h'=>h h'.2)]
end Go.QP
namespace Go.QP
open Go.Eng
theorem run_pos {l:List Nat} {i j:Nat} {s:ByteArray} (h:Go.QP.Lt (hd l)) (hr:runR l i= .ok s j):i<j:=by
 unfold runR at hr
 split at hr
 ·cases hr
 ·injection hr with _ hj
  have:1≤wordN false (64+1) l:=wordN_pos ⟨h,fun h=>by cases h⟩
  have:1≤wordN false 65 l:=this
  omega
theorem term_pos {l:List Nat} {i j:Nat} {x:Tm} (h:termR l i= .ok x j):i<j∧l≠[]:=by
 rcases term_next l i with ⟨x',j',k,s,h1,h2,h3,h4,h5,h6,h7⟩ | ⟨p,h1,h2⟩
 ·rw [h1] at h;injection h with _ hj;exact ⟨by omega,h7⟩
 ·rw [h1] at h;cases h
theorem name_pos {l:List Nat} {i j:Nat} {s:ByteArray} (h:nameR l i= .ok s j):i<j∧l≠[]:=by
 rcases name_next l i with ⟨s',j',h1,h2,h3,h4,h5⟩ | ⟨p,h1,h2⟩
 ·rw [h1] at h;injection h with _ hj;exact ⟨by omega,h5⟩
 ·rw [h1] at h;cases h
theorem ee_fuel:∀ (n n':Nat) (r:RS) (l:List Nat) (i:Nat),l.length<n→l.length<n'→EE n r l i=EE n' r l i
 | 0,_,_,_,_,h,_=>absurd h (Nat.not_lt_zero _)
 | _+1,0,_,_,_,_,h=>absurd h (Nat.not_lt_zero _)
 | n+1,n'+1,r,l,i,h,h'=>by
  have key:∀ (j:Nat) (r':RS),i<j→l≠[]→EE n r' (dr l i (sk (dr l i j) j)) (sk (dr l i j) j)=EE n' r' (dr l i (sk (dr l i j) j)) (sk (dr l i j) j):=fun j r' hj hl=>by
   have h1:=(sk_le (dr l i j) j).1
   have h2:0<l.length:=List.length_pos_iff.2 hl
   exact ee_fuel n n' _ _ _ (by rw [dr_len];omega) (by rw [dr_len];omega)
  have cm:∀ r1:RS,(if hd l=44 then (if r1.q.length<256 then EE n ⟨r1.q,0,r1.now⟩ (dr l i (sk (dr l i (i+1)) (i+1))) (sk (dr l i (i+1)) (i+1)) else .bad i) else .ok r1.q i)=(if hd l=44 then (if r1.q.length<256 then EE n' ⟨r1.q,0,r1.now⟩ (dr l i (sk (dr l i (i+1)) (i+1))) (sk (dr l i (i+1)) (i+1)) else .bad i) else .ok r1.q i):=fun r1=>by
   by_cases h44:hd l=44
   ·rw [if_pos h44,if_pos h44,key _ _ (by omega) (hd_lt h44 (by decide))]
   ·rw [if_neg h44,if_neg h44]
  have tm:∀ f:Tm→RS,(match termR l i with | .bad p=>Rs.bad p | .ok x j=>EE n (f x) (dr l i (sk (dr l i j) j)) (sk (dr l i j) j))=(match termR l i with | .bad p=>Rs.bad p | .ok x j=>EE n' (f x) (dr l i (sk (dr l i j) j)) (sk (dr l i j) j)):=fun f=>by
   cases ht:termR l i with
   | bad p=>rfl
   | ok x j=>exact key j _ (term_pos ht).1 (term_pos ht).2
  rw [EE,EE]
  simp only
  by_cases a0:r.at_=0
  ·rw [if_pos a0,if_pos a0]
   by_cases hs:Sm (hd l)
   ·rw [if_neg (not_not_intro hs),if_neg (not_not_intro hs)]
    cases hr:runR l i with
    | bad p=>rfl
    | ok s j=>
     have hj:=run_pos (.inl hs) hr
     have hl:l≠[]:=lt_ne (.inl hs)
     simp only
     rw [key _ _ hj hl,key _ _ hj hl]
   ·rw [if_pos hs,if_pos hs]
    exact tm _
  rw [if_neg a0,if_neg a0]
  by_cases a1:r.at_=1
  ·rw [if_pos a1,if_pos a1]
   cases hn:nameR l i with
   | bad p=>rfl
   | ok s j=>exact key j _ (name_pos hn).1 (name_pos hn).2
  rw [if_neg a1,if_neg a1]
  by_cases a2:r.at_=2
  ·rw [if_pos a2,if_pos a2]
   by_cases h33:hd l=33
   ·rw [if_pos h33,if_pos h33,key _ _ (by omega) (hd_lt h33 (by decide))]
   rw [if_neg h33,if_neg h33]
   by_cases h40:hd l=40
   ·rw [if_pos h40,if_pos h40,key _ _ (by omega) (hd_lt h40 (by decide))]
   rw [if_neg h40,if_neg h40]
   exact cm _
  rw [if_neg a2,if_neg a2]
  by_cases a3:r.at_=3
  ·rw [if_pos a3,if_pos a3]
   by_cases h40:hd l=40
   ·rw [if_pos h40,if_pos h40,key _ _ (by omega) (hd_lt h40 (by decide))]
   rw [if_neg h40,if_neg h40]
   exact cm _
  rw [if_neg a3,if_neg a3]
  by_cases a4:r.at_=4
  ·rw [if_pos a4,if_pos a4]
   exact tm _
  rw [if_neg a4,if_neg a4]
  by_cases a5:r.at_=5
  ·rw [if_pos a5,if_pos a5]
   by_cases h44:hd l=44
   ·rw [if_pos h44,if_pos h44,key _ _ (by omega) (hd_lt h44 (by decide))]
   rw [if_neg h44,if_neg h44]
   by_cases h41:hd l=41
   ·rw [if_pos h41,if_pos h41,key _ _ (by omega) (hd_lt h41 (by decide))]
   rw [if_neg h41,if_neg h41]
  rw [if_neg a5,if_neg a5]
  by_cases a6:r.at_=6
  ·rw [if_pos a6,if_pos a6]
   by_cases h33:hd l=33
   ·rw [if_pos h33,if_pos h33,key _ _ (by omega) (hd_lt h33 (by decide))]
   rw [if_neg h33,if_neg h33]
  rw [if_neg a6,if_neg a6]
  by_cases a7:r.at_=7
  ·rw [if_pos a7,if_pos a7]
   exact tm _
  rw [if_neg a7,if_neg a7]
  exact cm _
/-- behind blanks, with as much to spare as is wanted -/
def EF (r:RS) (l:List Nat) (i j:Nat):Rs (List Qlit):=EE (l.length+1) r (dr l i (sk (dr l i j) j)) (sk (dr l i j) j)
theorem ee_ef {n:Nat} {r:RS} {l:List Nat} {i j:Nat} (h:l.length≤n) (hj:i<j) (hl:l≠[]):EE n r (dr l i (sk (dr l i j) j)) (sk (dr l i j) j)=EF r l i j:=by
 have h1:=(sk_le (dr l i j) j).1
 have h2:0<l.length:=List.length_pos_iff.2 hl
 exact ee_fuel _ _ _ _ _ (by rw [dr_len];omega) (by rw [dr_len];omega)
/-- seen from a later place it is the same -/
theorem ef_dr {r:RS} {l:List Nat} {i j k:Nat} (h:i≤j) (h':j≤k):EF r (dr l i j) j k=EF r l i k:=by
 unfold EF
 have h1:=(sk_le (dr l i k) k).1
 rw [dr_dr h h',dr_dr h (by omega)]
 exact ee_fuel _ _ _ _ _ (by rw [dr_len];have:=dr_len (l:=l) (i:=i) (j:=j);rw [dr_len];omega) (by rw [dr_len];omega)
theorem ef_at {r:RS} {l:List Nat} {i:Nat}:EF r l i i=EE (l.length+1) r (dr l i (sk l i)) (sk l i):=by
 unfold EF;rw [dr_self]
end Go.QP
