/- Plain law: the document's reader of literals, state by state, and the program's way: they come to the same. -/
import Derived.Test.YtljfgmedbjlkaaaGreatRPC
import Derived.Test.YtljfgmedbjlkaaaGreatQT
namespace Go.QP
open Go.Eng
/-- the document's reader from a place on, at which no blank stands, in a state of the program's reader -/
def EE:Nat→RS→List Nat→Nat→Rs (List Qlit)
 | 0,_,_,i=>.bad i
 | n+1,r,l,i=>
  let nx:=fun (j:Nat) (r':RS)=>EE n r' (dr l i (sk (dr l i j) j)) (sk (dr l i j) j)
  let cm:=fun (r1:RS)=>if hd l=44 then (if r1.q.length<256 then nx (i+1) ⟨r1.q,0,r1.now⟩ else .bad i) else .ok r1.q i
  if r.at_=0 then
   if ¬ Sm (hd l) then (match termR l i with | .bad p=>.bad p | .ok x j=>nx j ⟨r.q,6,⟨3,ByteArray.empty,[],x,Tm0⟩⟩)
   else match runR l i with
    | .bad p=>.bad p
    | .ok s j=>if s.toList=NOT.toList then nx j ⟨r.q,1,{ r.now with kind:=2 }⟩ else if Rsv s then .bad j else nx j ⟨r.q,2,{ r.now with pred:=s }⟩
  else if r.at_=1 then (match nameR l i with | .bad p=>.bad p | .ok s j=>nx j ⟨r.q,3,{ r.now with pred:=s }⟩)
  else if r.at_=2 then
   if hd l=33 then (if hd (dr l i (i+1))=61 then nx (i+2) ⟨r.q,7,⟨3,ByteArray.empty,[],(false,r.now.pred),Tm0⟩⟩ else .bad (i+1))
   else if hd l=40 then nx (i+1) ⟨r.q,4,{ r.now with kind:=1 }⟩ else cm (endsS r)
  else if r.at_=3 then (if hd l=40 then nx (i+1) ⟨r.q,4,r.now⟩ else cm (endsS r))
  else if r.at_=4 then (match termR l i with | .bad p=>.bad p | .ok x j=>nx j ⟨r.q,5,{ r.now with args:=r.now.args++[x] }⟩)
  else if r.at_=5 then
   if hd l=44 then (if r.now.args.length<16 then nx (i+1) ⟨r.q,4,r.now⟩ else .bad i)
   else if hd l=41 then nx (i+1) (doneS r) else .bad i
  else if r.at_=6 then
   if hd l=33 then (if hd (dr l i (i+1))=61 then nx (i+2) ⟨r.q,7,r.now⟩ else .bad (i+1)) else .bad i
  else if r.at_=7 then (match termR l i with | .bad p=>.bad p | .ok x j=>nx j (doneS ⟨r.q,7,{ r.now with right:=x }⟩))
  else cm r
/-- what the reader comes to goes with the program's way -/
def Sim (e:Rs (List Qlit)):Pw→Prop
 | .clean r p c=>if (endsS r).at_=8∧c≠44 then e= .ok (endsS r).q p else e= .bad p
 | .dirty p=>e= .bad p
 | .word p=>e= .bad p∨∃ q,e= .ok q p
section
variable {n:Nat} {r r':RS} {l:List Nat} {i j k:Nat} {jt:Int} {s:ByteArray}
theorem pr_true (hl:l≠[]) (hj:¬ (jt=(i:Int)∧Go.QP.Lt (hd l))) (hx:nextP l i=(⟨k,s,i,j⟩,true)) (ht:takeS r k s=some r'):PR (n+1) r l i jt=PR n r' (dr l i (sk (dr l i j) j)) (sk (dr l i j) j) (if WordK k then (j:Int) else -1):=by
 rw [PR,if_neg hl,if_neg hj]
 simp only [hx]
 rw [if_neg (by decide),ht]
theorem pr_none (hl:l≠[]) (hj:¬ (jt=(i:Int)∧Go.QP.Lt (hd l))) (hx:(nextP l i).2=true) (ht:takeS r (nextP l i).1.k (nextP l i).1.s=none):PR (n+1) r l i jt=if ((nextP l i).1.k=5∨(nextP l i).1.k=6∨(nextP l i).1.k=7)∧wantsS r.at_ 1 then .dirty (nextP l i).1.j else .clean r i (hd l):=by
 rw [PR,if_neg hl,if_neg hj]
 dsimp only
 rw [if_neg (by rw [hx];decide),ht]
theorem pr_open (hl:l≠[]) (hj:¬ (jt=(i:Int)∧Go.QP.Lt (hd l))) (hx:(nextP l i).2=false):PR (n+1) r l i jt=if (nextP l i).1.k=0 then .clean r i (hd l) else if (nextP l i).1.k=4 then (if wantsS r.at_ 4 then .dirty (nextP l i).1.j else .clean r i (hd l)) else if (nextP l i).1.k=14 then (if r.at_=2∨r.at_=6 then .dirty (nextP l i).1.j else .clean r i (hd l)) else .clean r i (hd l):=by
 rw [PR,if_neg hl,if_neg hj]
 dsimp only
 rw [if_pos hx]
theorem pr_nil:PR (n+1) r [] i jt= .clean r i 0:=by rw [PR,if_pos rfl];rfl
theorem pr_word (hj:jt=(i:Int)) (h:Go.QP.Lt (hd l)):PR (n+1) r l i jt= .word i:=by
 rw [PR,if_neg (lt_ne h),if_pos ⟨hj,h⟩]
theorem sim_bad {c:Nat} (h:(endsS r).at_≠8):Sim (.bad i) (.clean r i c):=by
 show if _ then _ else _
 rw [if_neg (fun h'=>h h'.1)]
theorem sim_ok {c:Nat} (h:(endsS r).at_=8) (hc:c≠44):Sim (.ok (endsS r).q i) (.clean r i c):=by
 show if _ then _ else _
 rw [if_pos ⟨h,hc⟩]
theorem sim_44:Sim (.bad i) (.clean r i 44):=by
 show if _ then _ else _
 rw [if_neg (fun h'=>h'.2 rfl)]
theorem ends_at (h:r.at_=0∨r.at_=1∨r.at_=4∨r.at_=5∨r.at_=6∨r.at_=7):(endsS r).at_≠8:=by
 unfold endsS
 rw [if_neg (by omega),if_neg (by omega)]
 omega
/-- at a place that is taken by a sign, or by nothing -/
theorem sign_40 (h:hd l=40):nextP l i=(⟨8,ByteArray.empty,i,i+1⟩,true):=by rw [hd_cons (hd_lt h (by decide)),h];rfl
theorem sign_41 (h:hd l=41):nextP l i=(⟨9,ByteArray.empty,i,i+1⟩,true):=by rw [hd_cons (hd_lt h (by decide)),h];rfl
theorem sign_44 (h:hd l=44):nextP l i=(⟨10,ByteArray.empty,i,i+1⟩,true):=by rw [hd_cons (hd_lt h (by decide)),h];rfl
theorem hd_dr1 (h:l≠[]):hd (dr l i (i+1))=hd l.tail:=by
 unfold dr;rw [show i+1-i=1 by omega];cases l with | nil=>exact absurd rfl h | cons c t=>rfl
theorem sign_33 (h:hd l=33) (h2:hd (dr l i (i+1))=61):nextP l i=(⟨14,ByteArray.empty,i,i+2⟩,true):=by
 have hl:=hd_lt h (by decide)
 rw [hd_dr1 hl] at h2
 conv=>lhs;rw [hd_cons hl,h]
 rw [nextP,if_neg (by decide),if_neg (by decide),if_neg (by decide),if_pos rfl,if_pos]
 rw [hd_cons (hd_lt h2 (by decide)),h2];rfl
theorem sign_33n (h:hd l=33) (h2:¬ hd (dr l i (i+1))=61):nextP l i=(⟨14,ByteArray.empty,i,i+1⟩,false):=by
 have hl:=hd_lt h (by decide)
 rw [hd_dr1 hl] at h2
 conv=>lhs;rw [hd_cons hl,h]
 rw [nextP,if_neg (by decide),if_neg (by decide),if_neg (by decide),if_pos rfl,if_neg]
 intro e
 apply h2
 cases ht:l.tail with
 | nil=>rw [ht] at e;cases e
 | cons c t=>rw [ht] at e;cases e;rfl
theorem sign_no (hl:l≠[]) (h:hd l≠40∧hd l≠41∧hd l≠44∧hd l≠33):(nextP l i).1.k≠8∧(nextP l i).1.k≠9∧(nextP l i).1.k≠10∧(nextP l i).1.k≠14:=by
 have e:nextP l i=nextP (hd l::l.tail) i:=by rw [← hd_cons hl]
 rw [e,nextP]
 split
 ·show (4:Nat)≠8∧(4:Nat)≠9∧(4:Nat)≠10∧(4:Nat)≠14
  decide
 split
 ·rename_i h1
  show sign1 (hd l)≠8∧sign1 (hd l)≠9∧sign1 (hd l)≠10∧sign1 (hd l)≠14
  unfold sign1
  rw [if_neg h.1,if_neg h.2.1,if_neg h.2.2.1]
  split
  ·decide
  split <;> decide
 split
 ·split <;> (show (13:Nat)≠8∧(13:Nat)≠9∧(13:Nat)≠10∧(13:Nat)≠14;decide)
 split
 ·omega
 ·unfold wordT
  dsimp only
  split
  ·decide
  ·have hk:∀ s:ByteArray,kind s≤7:=fun s=>by
    unfold kind
    repeat' split
    all_goals omega
   have:=hk (sN (List.take (wordN (decide (Dg ((hd l::l.tail).headD 0))) 64 (hd l::l.tail)) (hd l::l.tail)))
   show kind _≠8∧kind _≠9∧kind _≠10∧kind _≠14
   omega
/-- nothing of a sign stands there, and nothing else may: the way ends there -/
theorem pr_other (hl:l≠[]) (hj:¬ (jt=(i:Int)∧Go.QP.Lt (hd l))) (hat:r.at_=2∨r.at_=3∨r.at_=5∨r.at_=6∨8≤r.at_) (hk:(nextP l i).1.k≠14∨(nextP l i).2=true∨(r.at_≠2∧r.at_≠6)) (ht:(nextP l i).2=true→takeS r (nextP l i).1.k (nextP l i).1.s=none):PR (n+1) r l i jt= .clean r i (hd l):=by
 have hw1:¬ wantsS r.at_ 1:=by unfold wantsS;omega
 have hw4:¬ wantsS r.at_ 4:=by unfold wantsS;omega
 cases hx:(nextP l i).2 with
 | false=>
  rw [pr_open hl hj hx]
  split
  ·rfl
  split
  ·first | rfl | rw [if_neg hw4]
  split
  ·rename_i h14
   rw [hx] at hk
   rw [if_neg (by rcases hk with hk | hk | hk;exact absurd h14 hk;cases hk;omega)]
  ·rfl
 | true=>
  rw [pr_none hl hj hx (ht hx),if_neg (fun h=>hw1 h.2)]
end
theorem take_other {r:RS} {k:Nat} {s:ByteArray} (hat:r.at_=2∨r.at_=3∨r.at_=5∨r.at_=6∨8≤r.at_) (hk:k≠8∧k≠9∧k≠10∧k≠14):takeS r k s=none:=by
 unfold takeS
 rw [if_neg (by omega),if_neg (by omega)]
 split
 ·rw [if_neg hk.1,if_neg (fun h=>hk.2.2.2 h.1),if_neg (fun h=>hk.2.2.1 h.1)]
 rw [if_neg (by omega)]
 split
 ·rw [if_neg (fun h=>hk.2.2.1 h.1),if_neg hk.2.1]
 split
 ·rw [if_neg hk.2.2.2]
 rw [if_neg (by omega),if_neg (fun h=>hk.2.2.1 h.1)]
theorem not_small {l:List Nat} {i:Nat} (hl:l≠[]) (h:¬ Sm (hd l)):(nextP l i).1.k≠1∧((nextP l i).1.k=5∨(nextP l i).1.k=6∨(nextP l i).1.k=7→False):=by
 rcases term_next l i with ⟨x,j,k,s,h1,h2,h3,h4,h5,h6,h7⟩ | ⟨p,h1,h2⟩
 ·rw [h2]
  refine ⟨fun hk=>h (h5 hk),fun hk=>?_⟩
  have hk:k=5∨k=6∨k=7:=hk
  unfold termT at h3
  rw [if_neg (by omega),if_neg (by omega)] at h3
  cases h3
 ·rcases h2 with ⟨rfl,h'⟩ | ⟨k,s,x,a,b,c,d,e,f,g⟩ | ⟨k,s,a,b,c,d,e⟩ | ⟨a,b,_⟩
  ·rcases h' with h' | h' | h'
   ·exact absurd h' hl
   ·-- nothing of a word is open
    have:(nextP l p).1.k=0∨8≤(nextP l p).1.k:=by
     have e:nextP l p=nextP (hd l::l.tail) p:=by rw [← hd_cons hl]
     rw [e] at h' ⊢
     rw [nextP] at h' ⊢
     split
     ·rename_i h34
      rw [if_pos h34] at h'
      exact absurd rfl h'.2
     split
     ·rename_i h34 hs1
      rw [if_neg h34,if_pos hs1] at h'
      exact Bool.noConfusion h'.1
     split
     ·split
      ·exact .inr (by show 8≤13;omega)
      ·exact .inr (by show 8≤13;omega)
     split
     ·split
      ·exact .inr (by show 8≤14;omega)
      ·exact .inr (by show 8≤14;omega)
     ·rename_i h34 hs1 h58 h33'
      rw [if_neg h34,if_neg hs1,if_neg h58,if_neg h33'] at h'
      unfold wordT at h' ⊢
      dsimp only at h' ⊢
      split
      ·exact .inl rfl
      ·rename_i hk
       rw [if_neg hk] at h'
       exact Bool.noConfusion h'.1
    omega
   ·exact ⟨(fun hk=>by have h1:=h'.2.1;rw [hk] at h1;cases h1),h'.2.2⟩
  ·rw [a]
   refine ⟨fun hk=>h (d hk),fun hk=>?_⟩
   have hk:k=5∨k=6∨k=7:=hk
   unfold termT at c
   rw [if_neg (by omega),if_neg (by omega)] at c
   cases c
  ·exact absurd d h
  ·rw [b];exact ⟨by decide,by decide⟩
theorem sign_no3 {l:List Nat} {i:Nat} (hl:l≠[]) (h:hd l≠33):(nextP l i).1.k≠14:=by
 by_cases h4:hd l=40
 ·rw [sign_40 h4];show (8:Nat)≠14;decide
 by_cases h5:hd l=41
 ·rw [sign_41 h5];show (9:Nat)≠14;decide
 by_cases h6:hd l=44
 ·rw [sign_44 h6];show (10:Nat)≠14;decide
 exact (sign_no hl ⟨h4,h5,h6,h⟩).2.2.2
theorem sign_no2 {l:List Nat} {i:Nat} (hl:l≠[]) (h:hd l≠44) (h':hd l≠41):(nextP l i).1.k≠9∧(nextP l i).1.k≠10:=by
 by_cases h4:hd l=40
 ·rw [sign_40 h4];show (8:Nat)≠9∧(8:Nat)≠10;decide
 by_cases h5:hd l=33
 ·by_cases h61:hd (dr l i (i+1))=61
  ·rw [sign_33 h5 h61];show (14:Nat)≠9∧(14:Nat)≠10;decide
  ·rw [sign_33n h5 h61];show (14:Nat)≠9∧(14:Nat)≠10;decide
 have:=sign_no (i:=i) hl ⟨h4,h',h,h5⟩
 exact ⟨this.2.1,this.2.2.1⟩
end Go.QP
