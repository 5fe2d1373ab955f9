/- Plain law: the document's literals, one behind the other, are the reader's states. -/
import Derived.Test.YtljfgmedbjlkaaaGreatRPE
namespace Go.QP
open Go.Eng
theorem blank_idem:∀ (l:List Nat) (b:Bool) (i:Nat),blankP (l.drop (blankP l b i-i)) false (blankP l b i)=blankP l b i
 | [],b,i=>by cases b <;> simp [blankP]
 | c::l,true,i=>by
  have h:=blank_idem l (decide (c≠10)) (i+1)
  have h2:=(blankP_le l (decide (c≠10)) (i+1)).1
  rw [blankP,show blankP l (decide (c≠10)) (i+1)-i=blankP l (decide (c≠10)) (i+1)-(i+1)+1 by omega,List.drop_succ_cons]
  exact h
 | c::l,false,i=>by
  rw [blankP]
  by_cases h1:c=37
  ·rw [if_pos h1]
   have h:=blank_idem l true (i+1)
   have h2:=(blankP_le l true (i+1)).1
   rw [show blankP l true (i+1)-i=blankP l true (i+1)-(i+1)+1 by omega,List.drop_succ_cons]
   exact h
  rw [if_neg h1]
  by_cases h3:c≠32∧c≠9∧c≠10∧c≠13
  ·rw [if_pos h3,Nat.sub_self,List.drop_zero,blankP,if_neg h1,if_pos h3]
  ·rw [if_neg h3]
   have h:=blank_idem l false (i+1)
   have h2:=(blankP_le l false (i+1)).1
   rw [show blankP l false (i+1)-i=blankP l false (i+1)-(i+1)+1 by omega,List.drop_succ_cons]
   exact h
theorem sk_idem (l:List Nat) (i:Nat):sk (dr l i (sk l i)) (sk l i)=sk l i:=blank_idem l false i
theorem sk_idem' {l:List Nat} {i j:Nat} (h:i≤j):sk (dr l i (sk (dr l i j) j)) (sk (dr l i j) j)=sk (dr l i j) j:=by
 have h1:=(sk_le (dr l i j) j).1
 have:=sk_idem (dr l i j) j
 rwa [dr_dr h h1] at this
/-- the states, said one by one -/
theorem ee_s {n:Nat} {r:RS} {l:List Nat} {i:Nat}:EE (n+1) r l i =
  (let nx:=fun (j:Nat) (r':RS)=>EE n r' (dr l i (sk (dr l i j) j)) (sk (dr l i j) j)
  let cm:=fun (r1:RS)=>if hd l=44 then (if r1.q.length<256 then nx (i+1) ⟨r1.q,0,r1.now⟩ else .bad i) else .ok r1.q i
  if r.at_=0 then
   if ¬ Sm (hd l) then (match termR l i with | .bad p=>.bad p | .ok x j=>nx j ⟨r.q,6,⟨3,ByteArray.empty,[],x,Tm0⟩⟩)
   else match runR l i with
    | .bad p=>.bad p
    | .ok s j=>if s.toList=NOT.toList then nx j ⟨r.q,1,{ r.now with kind:=2 }⟩ else if Rsv s then .bad j else nx j ⟨r.q,2,{ r.now with pred:=s }⟩
  else if r.at_=1 then (match nameR l i with | .bad p=>.bad p | .ok s j=>nx j ⟨r.q,3,{ r.now with pred:=s }⟩)
  else if r.at_=2 then
   if hd l=33 then (if hd (dr l i (i+1))=61 then nx (i+2) ⟨r.q,7,⟨3,ByteArray.empty,[],(false,r.now.pred),Tm0⟩⟩ else .bad (i+1))
   else if hd l=40 then nx (i+1) ⟨r.q,4,{ r.now with kind:=1 }⟩ else cm (endsS r)
  else if r.at_=3 then (if hd l=40 then nx (i+1) ⟨r.q,4,r.now⟩ else cm (endsS r))
  else if r.at_=4 then (match termR l i with | .bad p=>.bad p | .ok x j=>nx j ⟨r.q,5,{ r.now with args:=r.now.args++[x] }⟩)
  else if r.at_=5 then
   if hd l=44 then (if r.now.args.length<16 then nx (i+1) ⟨r.q,4,r.now⟩ else .bad i)
   else if hd l=41 then nx (i+1) (doneS r) else .bad i
  else if r.at_=6 then
   if hd l=33 then (if hd (dr l i (i+1))=61 then nx (i+2) ⟨r.q,7,r.now⟩ else .bad (i+1)) else .bad i
  else if r.at_=7 then (match termR l i with | .bad p=>.bad p | .ok x j=>nx j (doneS ⟨r.q,7,{ r.now with right:=x }⟩))
  else cm r):=rfl
section
variable {q:List Qlit} {now:Qlit} {l:List Nat} {i j:Nat}
theorem pl_le:j≤sk (dr l i j) j:=(sk_le _ _).1
theorem nx_ef {m:Nat} {r:RS} (hm:m=l.length) (h:i≤j) {k:Nat} (hk:sk (dr l i j) j<k) (hl:dr l i (sk (dr l i j) j)≠[]):EE m r (dr (dr l i (sk (dr l i j) j)) (sk (dr l i j) j) (sk (dr (dr l i (sk (dr l i j) j)) (sk (dr l i j) j) k) k)) (sk (dr (dr l i (sk (dr l i j) j)) (sk (dr l i j) j) k) k)=EF r l i k:=by
 have h1:=pl_le (l:=l) (i:=i) (j:=j)
 rw [ee_ef (by rw [dr_len];omega) hk hl,ef_dr (by omega) (by omega)]
theorem ef_4 (h:i≤j):EF ⟨q,4,now⟩ l i j=match termR (dr l i (sk (dr l i j) j)) (sk (dr l i j) j) with | .bad p=>.bad p | .ok x k=>EF ⟨q,5,{ now with args:=now.args++[x] }⟩ l i k:=by
 show EE _ _ _ _=_
 rw [ee_s]
 simp only
 rw [if_neg (by decide),if_neg (by decide),if_neg (by decide),if_neg (by decide),if_pos trivial]
 cases ht:termR (dr l i (sk (dr l i j) j)) (sk (dr l i j) j) with
 | bad p=>rfl
 | ok x k=>exact nx_ef rfl h (term_pos ht).1 (term_pos ht).2
theorem ef_5 (h:i≤j):EF ⟨q,5,now⟩ l i j=if hd (dr l i (sk (dr l i j) j))=44 then (if now.args.length<16 then EF ⟨q,4,now⟩ l i (sk (dr l i j) j+1) else .bad (sk (dr l i j) j)) else if hd (dr l i (sk (dr l i j) j))=41 then EF ⟨q++[now],8,Qlit0⟩ l i (sk (dr l i j) j+1) else .bad (sk (dr l i j) j):=by
 show EE _ _ _ _=_
 rw [ee_s]
 simp only
 rw [if_neg (by decide),if_neg (by decide),if_neg (by decide),if_neg (by decide),if_neg (by decide),if_pos trivial]
 by_cases h44:hd (dr l i (sk (dr l i j) j))=44
 ·rw [if_pos h44,if_pos h44,nx_ef rfl h (by omega) (hd_lt h44 (by decide))]
 rw [if_neg h44,if_neg h44]
 by_cases h41:hd (dr l i (sk (dr l i j) j))=41
 ·rw [if_pos h41,if_pos h41,nx_ef rfl h (by omega) (hd_lt h41 (by decide))];rfl
 rw [if_neg h41,if_neg h41]
theorem ef_7 (h:i≤j):EF ⟨q,7,now⟩ l i j=match termR (dr l i (sk (dr l i j) j)) (sk (dr l i j) j) with | .bad p=>.bad p | .ok x k=>EF ⟨q++[{ now with right:=x }],8,Qlit0⟩ l i k:=by
 show EE _ _ _ _=_
 rw [ee_s]
 simp only
 rw [if_neg (by decide),if_neg (by decide),if_neg (by decide),if_neg (by decide),if_neg (by decide),if_neg (by decide),if_neg (by decide),if_pos trivial]
 cases ht:termR (dr l i (sk (dr l i j) j)) (sk (dr l i j) j) with
 | bad p=>rfl
 | ok x k=>exact nx_ef rfl h (term_pos ht).1 (term_pos ht).2
theorem ef_6 (h:i≤j):EF ⟨q,6,now⟩ l i j=if hd (dr l i (sk (dr l i j) j))=33 then (if hd (dr l i (sk (dr l i j) j+1))=61 then EF ⟨q,7,now⟩ l i (sk (dr l i j) j+2) else .bad (sk (dr l i j) j+1)) else .bad (sk (dr l i j) j):=by
 have h1:=pl_le (l:=l) (i:=i) (j:=j)
 show EE _ _ _ _=_
 rw [ee_s]
 simp only
 rw [if_neg (by decide),if_neg (by decide),if_neg (by decide),if_neg (by decide),if_neg (by decide),if_neg (by decide),if_pos trivial]
 by_cases h33:hd (dr l i (sk (dr l i j) j))=33
 ·rw [if_pos h33,if_pos h33,nx_ef rfl h (by omega) (hd_lt h33 (by decide)),show dr (dr l i (sk (dr l i j) j)) (sk (dr l i j) j) (sk (dr l i j) j+1)=dr l i (sk (dr l i j) j+1) from dr_dr (by omega) (by omega)]
 rw [if_neg h33,if_neg h33]
theorem ef_8 (h:i≤j):EF ⟨q,8,now⟩ l i j=if hd (dr l i (sk (dr l i j) j))=44 then (if q.length<256 then EF ⟨q,0,now⟩ l i (sk (dr l i j) j+1) else .bad (sk (dr l i j) j)) else .ok q (sk (dr l i j) j):=by
 show EE _ _ _ _=_
 rw [ee_s]
 simp only
 rw [if_neg (by decide),if_neg (by decide),if_neg (by decide),if_neg (by decide),if_neg (by decide),if_neg (by decide),if_neg (by decide),if_neg (by decide)]
 by_cases h44:hd (dr l i (sk (dr l i j) j))=44
 ·rw [if_pos h44,if_pos h44,nx_ef rfl h (by omega) (hd_lt h44 (by decide))]
 rw [if_neg h44,if_neg h44]
theorem pl_idem (h:i≤j):sk (dr l i (sk (dr l i j) j)) (sk (dr l i j) j)=sk (dr l i j) j:=sk_idem' h
theorem ef_3 (h:i≤j):EF ⟨q,3,now⟩ l i j=if hd (dr l i (sk (dr l i j) j))=40 then EF ⟨q,4,now⟩ l i (sk (dr l i j) j+1) else EF ⟨q++[now],8,Qlit0⟩ l i (sk (dr l i j) j):=by
 have h1:=pl_le (l:=l) (i:=i) (j:=j)
 rw [ef_8 (by omega),pl_idem h]
 show EE _ _ _ _=_
 rw [ee_s]
 simp only
 rw [if_neg (by decide),if_neg (by decide),if_neg (by decide),if_pos trivial]
 by_cases h40:hd (dr l i (sk (dr l i j) j))=40
 ·rw [if_pos h40,if_pos h40,nx_ef rfl h (by omega) (hd_lt h40 (by decide))]
 rw [if_neg h40,if_neg h40]
 have e:endsS ⟨q,3,now⟩=⟨q++[now],8,Qlit0⟩:=rfl
 rw [e]
 by_cases h44:hd (dr l i (sk (dr l i j) j))=44
 ·rw [if_pos h44,if_pos h44,nx_ef rfl h (by omega) (hd_lt h44 (by decide))]
 rw [if_neg h44,if_neg h44]
theorem ef_2 (h:i≤j):EF ⟨q,2,now⟩ l i j=if hd (dr l i (sk (dr l i j) j))=33 then EF ⟨q,6,⟨3,ByteArray.empty,[],(false,now.pred),Tm0⟩⟩ l i (sk (dr l i j) j) else if hd (dr l i (sk (dr l i j) j))=40 then EF ⟨q,4,{ now with kind:=1 }⟩ l i (sk (dr l i j) j+1) else EF ⟨q++[{ now with kind:=1 }],8,Qlit0⟩ l i (sk (dr l i j) j):=by
 have h1:=pl_le (l:=l) (i:=i) (j:=j)
 rw [ef_8 (by omega),ef_6 (by omega),pl_idem h]
 show EE _ _ _ _=_
 rw [ee_s]
 simp only
 rw [if_neg (by decide),if_neg (by decide),if_pos trivial]
 by_cases h33:hd (dr l i (sk (dr l i j) j))=33
 ·rw [if_pos h33,if_pos h33,if_pos h33,nx_ef rfl h (by omega) (hd_lt h33 (by decide)),show dr (dr l i (sk (dr l i j) j)) (sk (dr l i j) j) (sk (dr l i j) j+1)=dr l i (sk (dr l i j) j+1) from dr_dr (by omega) (by omega)]
 rw [if_neg h33,if_neg h33]
 by_cases h40:hd (dr l i (sk (dr l i j) j))=40
 ·rw [if_pos h40,if_pos h40,nx_ef rfl h (by omega) (hd_lt h40 (by decide))]
 rw [if_neg h40,if_neg h40]
 have e:endsS ⟨q,2,now⟩=⟨q++[{ now with kind:=1 }],8,Qlit0⟩:=rfl
 rw [e]
 by_cases h44:hd (dr l i (sk (dr l i j) j))=44
 ·rw [if_pos h44,if_pos h44,nx_ef rfl h (by omega) (hd_lt h44 (by decide))]
 rw [if_neg h44,if_neg h44]
theorem ef_1 (h:i≤j):EF ⟨q,1,now⟩ l i j=match nameR (dr l i (sk (dr l i j) j)) (sk (dr l i j) j) with | .bad p=>.bad p | .ok s k=>EF ⟨q,3,{ now with pred:=s }⟩ l i k:=by
 show EE _ _ _ _=_
 rw [ee_s]
 simp only
 rw [if_neg (by decide),if_pos trivial]
 cases ht:nameR (dr l i (sk (dr l i j) j)) (sk (dr l i j) j) with
 | bad p=>rfl
 | ok x k=>exact nx_ef rfl h (name_pos ht).1 (name_pos ht).2
theorem ef_0 (h:i≤j):EF ⟨q,0,now⟩ l i j=if ¬ Sm (hd (dr l i (sk (dr l i j) j))) then (match termR (dr l i (sk (dr l i j) j)) (sk (dr l i j) j) with | .bad p=>.bad p | .ok x k=>EF ⟨q,6,⟨3,ByteArray.empty,[],x,Tm0⟩⟩ l i k)
  else match runR (dr l i (sk (dr l i j) j)) (sk (dr l i j) j) with
   | .bad p=>.bad p
   | .ok s k=>if s.toList=NOT.toList then EF ⟨q,1,{ now with kind:=2 }⟩ l i k else if Rsv s then .bad k else EF ⟨q,2,{ now with pred:=s }⟩ l i k:=by
 show EE _ _ _ _=_
 rw [ee_s]
 simp only
 rw [if_pos trivial]
 by_cases hs:Sm (hd (dr l i (sk (dr l i j) j)))
 ·rw [if_neg (not_not_intro hs),if_neg (not_not_intro hs)]
  cases hr:runR (dr l i (sk (dr l i j) j)) (sk (dr l i j) j) with
  | bad p=>rfl
  | ok s k=>
   have hk:=run_pos (.inl hs) hr
   have hl:dr l i (sk (dr l i j) j)≠[]:=lt_ne (.inl hs)
   simp only
   rw [nx_ef rfl h hk hl,nx_ef rfl h hk hl]
 ·rw [if_pos hs,if_pos hs]
  cases ht:termR (dr l i (sk (dr l i j) j)) (sk (dr l i j) j) with
  | bad p=>rfl
  | ok x k=>exact nx_ef rfl h (term_pos ht).1 (term_pos ht).2
end
theorem ef_args:∀ (n:Nat) (acc:List Tm) (q:List Qlit) (now:Qlit) (l:List Nat) (i j:Nat),i≤j→(dr l i j).length<n→acc.length<16→
  EF ⟨q,4,{ now with args:=acc }⟩ l i j=match argsL n acc (dr l i j) j with | .bad p=>.bad p | .ok xs k=>EF ⟨q++[{ now with args:=xs }],8,Qlit0⟩ l i k
 | 0,_,_,_,_,_,_,_,h,_=>absurd h (Nat.not_lt_zero _)
 | n+1,acc,q,now,l,i,j,hj,hn,ha=>by
  have h1:=pl_le (l:=l) (i:=i) (j:=j)
  rw [ef_4 hj,argsL]
  simp only
  rw [dr_dr hj (show j≤sk (dr l i j) j from h1)]
  cases ht:termR (dr l i (sk (dr l i j) j)) (sk (dr l i j) j) with
  | bad p=>
   rfl
  | ok x k=>
   obtain ⟨h2,h3⟩:=term_pos ht
   have h4:=pl_le (l:=l) (i:=i) (j:=k)
   have h5:0<(dr l i (sk (dr l i j) j)).length:=List.length_pos_iff.2 h3
   rw [dr_len] at h5
   simp only
   rw [ef_5 (by omega),dr_dr hj (show j≤k by omega),dr_dr hj (show j≤sk (dr l i k) k by omega),dr_dr hj (show j≤sk (dr l i k) k+1 by omega)]
   show (if hd (dr l i (sk (dr l i k) k))=44 then (if (acc++[x]).length<16 then _ else _) else _)=_
   by_cases h44:hd (dr l i (sk (dr l i k) k))=44
   ·rw [if_pos h44,if_pos h44]
    by_cases ha2:acc.length+1=16
    ·rw [if_pos ha2,if_neg (by rw [List.length_append];simp only [List.length_cons,List.length_nil];omega)]
    ·rw [if_neg ha2,if_pos (by rw [List.length_append];simp only [List.length_cons,List.length_nil];omega)]
     exact ef_args n (acc++[x]) q now l i (sk (dr l i k) k+1) (by omega) (by rw [dr_len] at hn ⊢;omega) (by rw [List.length_append];simp only [List.length_cons,List.length_nil];omega)
   rw [if_neg h44,if_neg h44]
   by_cases h41:hd (dr l i (sk (dr l i k) k))=41
   ·rw [if_pos h41,if_pos h41]
   ·rw [if_neg h41,if_neg h41]
end Go.QP
namespace Go.QP
open Go.Eng
theorem run_end {l:List Nat} {i j:Nat} {s:ByteArray} (h:runR l i= .ok s j):¬ Go.QP.Lt (hd (dr l i j))∧i≤j:=by
 unfold runR at h
 split at h
 ·cases h
 ·rename_i h65
  injection h with _ hj
  rcases wordN_65 false l with ⟨a,_⟩ | ⟨a,b,c⟩
  ·exact absurd a h65
  ·rw [← b] at hj
   refine ⟨fun hl=>c ⟨?_,fun h=>by cases h⟩,by omega⟩
   rw [show wordN false 64 l=j-i by omega]
   exact hl
theorem name_ge {l:List Nat} {i j:Nat} {s:ByteArray} (h:nameR l i= .ok s j):i≤j:=Nat.le_of_lt (name_pos h).1
theorem term_ge {l:List Nat} {i j:Nat} {x:Tm} (h:termR l i= .ok x j):i≤j:=Nat.le_of_lt (term_pos h).1
theorem ef_unlike {q:List Qlit} {x:Tm} {l:List Nat} {i k:Nat} (h:i≤k) :
  EF ⟨q,6,⟨3,ByteArray.empty,[],x,Tm0⟩⟩ l i k=match unlikeR x (dr l i k) k with | .bad p=>.bad p | .ok y m=>EF ⟨q++[y],8,Qlit0⟩ l i m:=by
 have h1:k≤sk (dr l i k) k:=(sk_le _ _).1
 rw [ef_6 h,unlikeR]
 simp only
 rw [dr_dr h h1,dr_dr h (show k≤sk (dr l i k) k+1 by omega),dr_dr h (show k≤sk (dr l i k) k+2 by omega)]
 by_cases h33:hd (dr l i (sk (dr l i k) k))=33
 ·rw [if_pos h33,if_neg (not_not_intro h33)]
  by_cases h61:hd (dr l i (sk (dr l i k) k+1))=61
  ·rw [if_pos h61,if_neg (not_not_intro h61),ef_7 (by omega)]
   have h2:sk (dr l i k) k+2≤sk (dr l i (sk (dr l i k) k+2)) (sk (dr l i k) k+2):=(sk_le _ _).1
   rw [dr_dr h (show k≤sk (dr l i (sk (dr l i k) k+2)) (sk (dr l i k) k+2) by omega)]
   cases termR (dr l i (sk (dr l i (sk (dr l i k) k+2)) (sk (dr l i k) k+2))) (sk (dr l i (sk (dr l i k) k+2)) (sk (dr l i k) k+2)) with
   | bad p=>rfl
   | ok y m=>rfl
  ·rw [if_neg h61,if_pos h61]
 ·rw [if_neg h33,if_pos h33]
theorem ef_argsR {q:List Qlit} {now:Qlit} {l:List Nat} {i k:Nat} (h:i≤k) (hn:now.args=[]) :
  (if hd (dr l i (sk (dr l i k) k))=40 then EF ⟨q,4,now⟩ l i (sk (dr l i k) k+1) else EF ⟨q++[now],8,Qlit0⟩ l i (sk (dr l i k) k))=match argsR (dr l i k) k with | .bad p=>.bad p | .ok xs m=>EF ⟨q++[{ now with args:=xs }],8,Qlit0⟩ l i m:=by
 have h1:k≤sk (dr l i k) k:=(sk_le _ _).1
 have he:now={ now with args:=[] }:=by cases now;simp only at hn;rw [hn]
 rw [argsR]
 rw [dr_dr h h1,dr_dr h (show k≤sk (dr l i k) k+1 by omega)]
 by_cases h40:hd (dr l i (sk (dr l i k) k))=40
 ·rw [if_pos h40,if_pos h40]
  have:=ef_args ((dr l i k).length+1) [] q now l i (sk (dr l i k) k+1) (by omega) (by rw [dr_len,dr_len];omega) (by decide)
  rw [← he] at this
  exact this
 ·rw [if_neg h40,if_neg h40]
  show _=EF ⟨q++[{ now with args:=[] }],8,Qlit0⟩ l i (sk (dr l i k) k)
  rw [← he]
theorem ef_lit {q:List Qlit} {l:List Nat} {i j:Nat} (h:i≤j) :
  EF ⟨q,0,Qlit0⟩ l i j=match litR (dr l i (sk (dr l i j) j)) (sk (dr l i j) j) with | .bad p=>.bad p | .ok x k=>EF ⟨q++[x],8,Qlit0⟩ l i k:=by
 have h1:j≤sk (dr l i j) j:=(sk_le _ _).1
 generalize hp:sk (dr l i j) j=p at h1
 rw [ef_0 h,hp,litR]
 by_cases hs:Sm (hd (dr l i p))
 ·rw [if_neg (not_not_intro hs),if_neg (not_not_intro hs)]
  cases hr:runR (dr l i p) p with
  | bad p'=>rfl
  | ok s k=>
   obtain ⟨hw,hk⟩:=run_end hr
   have h2:k≤sk (dr l i k) k:=(sk_le _ _).1
   simp only
   rw [dr_dr (show i≤p by omega) hk,dr_dr (show i≤p by omega) (show p≤sk (dr l i k) k by omega)]
   rw [dr_dr (show i≤p by omega) hk] at hw
   by_cases hnot:s.toList=NOT.toList
   ·rw [if_pos hnot,if_pos hnot,if_neg,ef_1 (by omega),atomR]
    ·cases hm:nameR (dr l i (sk (dr l i k) k)) (sk (dr l i k) k) with
     | bad p'=>rfl
     | ok s' k'=>
      have h3:=name_ge hm
      simp only
      rw [ef_3 (by omega),ef_argsR (by omega) rfl,dr_dr (by omega) h3]
      cases argsR (dr l i k') k' with
      | bad p'=>rfl
      | ok xs m=>rfl
    ·rintro ⟨e,hw'⟩
     rw [e] at hw'
     exact hw (by rcases hw' with h | h | h;exact .inl h;exact .inr (.inl h);exact .inr (.inr (.inl h)))
   ·rw [if_neg hnot,if_neg hnot]
    by_cases hrs:Rsv s
    ·rw [if_pos hrs,if_pos hrs]
    ·rw [if_neg hrs,if_neg hrs,ef_2 (by omega)]
     by_cases h33:hd (dr l i (sk (dr l i k) k))=33
     ·rw [if_pos h33,if_pos h33]
      exact ef_unlike (by omega)
     ·rw [if_neg h33,if_neg h33]
      have hi:sk (dr l i (sk (dr l i k) k)) (sk (dr l i k) k)=sk (dr l i k) k:=sk_idem' (by omega)
      have ha:=ef_argsR (q:=q) (now:=⟨1,s,[],Tm0,Tm0⟩) (l:=l) (i:=i) (k:=sk (dr l i k) k) (by omega) rfl
      rw [hi] at ha
      refine Eq.trans ha ?_
      cases argsR (dr l i (sk (dr l i k) k)) (sk (dr l i k) k) with
      | bad p'=>rfl
      | ok xs m=>rfl
 ·rw [if_pos hs,if_pos hs]
  cases ht:termR (dr l i p) p with
  | bad p'=>rfl
  | ok x k=>
   have hk:=term_ge ht
   simp only
   rw [ef_unlike (by omega),dr_dr (by omega) hk]
theorem run_ge {l:List Nat} {i j:Nat} {s:ByteArray} (h:runR l i= .ok s j):i≤j:=(run_end h).2
theorem unlike_ge {x:Tm} {y:Qlit} {l:List Nat} {i j:Nat} (h:unlikeR x l i= .ok y j):i≤j:=by
 have h1:i≤sk l i:=(sk_le _ _).1
 rw [unlikeR] at h
 simp only at h
 split at h
 ·cases h
 split at h
 ·cases h
 have h2:sk l i+2≤sk (dr l i (sk l i+2)) (sk l i+2):=(sk_le _ _).1
 split at h
 ·cases h
 ·rename_i ht
  have:=term_ge ht
  injection h with _ hj
  omega
theorem argsL_ge:∀ (n:Nat) (acc:List Tm) (l:List Nat) (i j:Nat) (xs:List Tm),argsL n acc l i= .ok xs j→i≤j
 | 0,_,_,_,_,_,h=>by cases h
 | n+1,acc,l,i,j,xs,h=>by
  have h1:i≤sk l i:=(sk_le _ _).1
  rw [argsL] at h
  simp only at h
  split at h
  ·cases h
  ·rename_i x i2 ht
   have h2:=term_ge ht
   have h3:i2≤sk (dr l i i2) i2:=(sk_le _ _).1
   split at h
   ·split at h
    ·cases h
    ·have:=argsL_ge n _ _ _ _ _ h;omega
   split at h
   ·injection h with _ hj;omega
   ·cases h
theorem argsR_ge {l:List Nat} {i j:Nat} {xs:List Tm} (h:argsR l i= .ok xs j):i≤j:=by
 have h1:i≤sk l i:=(sk_le _ _).1
 rw [argsR] at h
 split at h
 ·have:=argsL_ge _ _ _ _ _ _ h;omega
 ·injection h with _ hj;omega
theorem atom_ge {k:Int} {y:Qlit} {l:List Nat} {i j:Nat} (h:atomR k l i= .ok y j):i≤j:=by
 rw [atomR] at h
 split at h
 ·cases h
 ·rename_i s j1 hn
  have h1:=name_ge hn
  split at h
  ·cases h
  ·rename_i xs j2 ha
   have h2:=argsR_ge ha
   injection h with _ hj
   omega
theorem lit_pos {l:List Nat} {i j:Nat} {x:Qlit} (h:litR l i= .ok x j):i<j∧l≠[]:=by
 rw [litR] at h
 by_cases hs:Sm (hd l)
 ·rw [if_neg (not_not_intro hs)] at h
  refine ⟨?_,lt_ne (.inl hs)⟩
  split at h
  ·cases h
  ·rename_i s k hr
   have h1:=run_pos (.inl hs) hr
   have h2:k≤sk (dr l i k) k:=(sk_le _ _).1
   split at h
   ·simp only at h
    split at h
    ·cases h
    ·have:=atom_ge h;omega
   split at h
   ·cases h
   simp only at h
   split at h
   ·have:=unlike_ge h;omega
   ·split at h
    ·cases h
    ·rename_i ha
     have:=argsR_ge ha
     injection h with _ hj;omega
 ·rw [if_pos hs] at h
  split at h
  ·cases h
  ·rename_i ht
   have h1:=term_pos ht
   have:=unlike_ge h
   exact ⟨by omega,h1.2⟩
theorem body_ef:∀ (n:Nat) (acc:List Qlit) (l:List Nat) (i j:Nat),i≤j→(dr l i j).length<n→acc.length<256→bodyL n acc (dr l i j) j=EF ⟨acc,0,Qlit0⟩ l i j
 | 0,_,_,_,_,_,h,_=>absurd h (Nat.not_lt_zero _)
 | n+1,acc,l,i,j,hj,hn,ha=>by
  have h1:j≤sk (dr l i j) j:=(sk_le _ _).1
  rw [ef_lit hj,bodyL]
  simp only
  rw [dr_dr hj h1]
  cases hx:litR (dr l i (sk (dr l i j) j)) (sk (dr l i j) j) with
  | bad p=>rfl
  | ok x k=>
   obtain ⟨h2,h3⟩:=lit_pos hx
   have h4:k≤sk (dr l i k) k:=(sk_le _ _).1
   have h5:0<(dr l i (sk (dr l i j) j)).length:=List.length_pos_iff.2 h3
   rw [dr_len] at h5
   simp only
   rw [dr_dr hj (show j≤k by omega),dr_dr hj (show j≤sk (dr l i k) k by omega),dr_dr hj (show j≤sk (dr l i k) k+1 by omega),ef_8 (by omega)]
   have hl:(acc++[x]).length=acc.length+1:=by rw [List.length_append];rfl
   by_cases h44:hd (dr l i (sk (dr l i k) k))=44
   ·rw [if_pos h44,if_pos h44]
    by_cases ha2:acc.length+1=256
    ·rw [if_pos ha2,if_neg (by omega)]
    ·rw [if_neg ha2,if_pos (by omega)]
     exact body_ef n (acc++[x]) l i (sk (dr l i k) k+1) (by omega) (by rw [dr_len] at hn ⊢;omega) (by omega)
   rw [if_neg h44,if_neg h44]
theorem body_all (l:List Nat) (i:Nat):bodyL (l.length+1) [] l i=EF RS0 l i i:=by
 have:=body_ef (l.length+1) [] l i i (Nat.le_refl i) (by rw [dr_len];omega) (by decide)
 rwa [dr_self] at this
end Go.QP
namespace Go.QP
open Go.Eng
theorem kind_word (s:ByteArray):kind s=0∨WordK (kind s):=by
 have h8:kind s≤7∧kind s≠4:=by
  unfold kind
  repeat' split
  all_goals exact ⟨by omega,by omega⟩
 unfold WordK
 omega
theorem kind_63 (l:List Nat) (i:Nat) (h:hd l=63):wordT l i=(Tk0,false):=by
 have hn:wordN (decide (Dg (l.headD 0))) 64 l=0:=by
  rw [hd_cons (hd_lt h (by decide)),h]
  rw [wordN,if_neg (fun hh=>absurd hh.1 (by decide))]
 unfold wordT
 dsimp only
 rw [hn,List.take_zero]
 rfl
/-- what is to be known of a token -/
theorem next_facts {l:List Nat} (i:Nat) (hl:l≠[]) :
  ((nextP l i).2=false→(nextP l i).1=Tk0∨((nextP l i).1.k=4∧(nextP l i).1.i=i∧hd l=34)∨((nextP l i).1.k=13∧(nextP l i).1.i=i)∨((nextP l i).1.k=14∧(nextP l i).1.i=i∧hd l=33))∧
  ((nextP l i).2=true→(nextP l i).1.i=i∧hd l≠63)∧
  (WordK (nextP l i).1.k→(nextP l i).2=true):=by
 have hw:∀ l:List Nat,((wordT l i).2=false→(wordT l i).1=Tk0)∧((wordT l i).2=true→(wordT l i).1.i=i)∧(WordK (wordT l i).1.k→(wordT l i).2=true):=fun l=>by
  unfold wordT
  dsimp only
  split
  ·exact ⟨fun _=>rfl,fun h=>Bool.noConfusion h,fun h=>absurd h.1 (by decide)⟩
  ·exact ⟨fun h=>Bool.noConfusion h,fun _=>rfl,fun _=>rfl⟩
 have h63:=kind_63 l i
 rw [hd_cons hl] at h63 ⊢
 rw [nextP]
 have e:hd (hd l::l.tail)=hd l:=rfl
 rw [e] at h63 ⊢
 split
 ·rename_i h34
  refine ⟨fun _=>.inr (.inl ⟨rfl,rfl,h34⟩),fun _=>⟨rfl,by omega⟩,fun h=>absurd rfl h.2.2⟩
 split
 ·rename_i hs
  refine ⟨fun h=>Bool.noConfusion h,fun _=>⟨rfl,?_⟩,fun _=>rfl⟩
  intro h;rw [h] at hs;exact hs rfl
 split
 ·split
  ·exact ⟨fun h=>Bool.noConfusion h,fun _=>⟨rfl,by omega⟩,fun _=>rfl⟩
  ·exact ⟨fun _=>.inr (.inr (.inl ⟨rfl,rfl⟩)),fun h=>Bool.noConfusion h,fun h=>absurd h.2.1 (by show ¬ (13:Nat)<8;decide)⟩
 split
 ·rename_i h33
  split
  ·exact ⟨fun h=>Bool.noConfusion h,fun _=>⟨rfl,by omega⟩,fun _=>rfl⟩
  ·exact ⟨fun _=>.inr (.inr (.inr ⟨rfl,rfl,h33⟩)),fun h=>Bool.noConfusion h,fun h=>absurd h.2.1 (by show ¬ (14:Nat)<8;decide)⟩
 ·obtain ⟨h1,h2,h3⟩:=hw (hd l::l.tail)
  refine ⟨fun h=>.inl (h1 h),fun h=>⟨h2 h,fun hh=>?_⟩,h3⟩
  rw [h63 hh] at h
  exact Bool.noConfusion h
theorem next_lt {l:List Nat} {i:Nat} (h:Go.QP.Lt (hd l)):(nextP l i).2=false→(nextP l i).1=Tk0:=by
 have e:nextP l i=wordT l i:=by
  have h34:hd l≠34:=fun e=>by rw [e] at h;exact absurd h (by decide)
  have h58:hd l≠58:=fun e=>by rw [e] at h;exact absurd h (by decide)
  have h33:hd l≠33:=fun e=>by rw [e] at h;exact absurd h (by decide)
  have h0:¬ sign1 (hd l)≠0:=by
   unfold sign1
   rw [if_neg (fun e=>by rw [e] at h;exact absurd h (by decide)),if_neg (fun e=>by rw [e] at h;exact absurd h (by decide)),if_neg (fun e=>by rw [e] at h;exact absurd h (by decide)),if_neg (fun e=>by rw [e] at h;exact absurd h (by decide)),if_neg (fun e=>by rw [e] at h;exact absurd h (by decide))]
   exact not_not_intro rfl
  conv=>lhs;rw [hd_cons (lt_ne h)]
  rw [nextP,if_neg h34,if_neg h0,if_neg h58,if_neg h33,← hd_cons (lt_ne h)]
 rw [e]
 unfold wordT
 dsimp only
 split
 ·exact fun _=>rfl
 ·exact fun h=>Bool.noConfusion h
section
variable {t:ByteArray}
/-- what is told, by what the reader comes to -/
def finR (t:ByteArray):Rs (List Qlit)→Option (List Qlit) × Nat
 | .bad p=>(none,p)
 | .ok q p=>if hd ((bl t).drop p)≠63 then (none,p) else
   let p':=blankP ((bl t).drop (p+1)) false (p+1)
   if p'<t.size then (none,p') else (some q,0)
/-- what is told, by the program's way -/
def outP (t:ByteArray):Pw→Option (List Qlit) × Nat
 | .clean r p _=>if hd ((bl t).drop p)≠63∨(endsS r).at_≠8 then (none,p) else
   let p':=blankP ((bl t).drop (p+1)) false (p+1)
   if p'<t.size then (none,p') else (some (endsS r).q,0)
 | .dirty p=>(none,p)
 | .word p=>(none,p)
/-- what is told, by the tokens -/
def finT (t:ByteArray) (x:Tk × Nat) (y:RS × Option Tk):Option (List Qlit) × Nat:=
 match y.2 with
 | some t=>if (t.k=5∨t.k=6∨t.k=7)∧wantsS y.1.at_ 1 then (none,t.j) else (none,t.i)
 | none=>
  if (x.1.k=4∧¬ wantsS y.1.at_ 4)∨x.1.k=13∨(x.1.k=14∧y.1.at_≠2∧y.1.at_≠6) then (none,x.1.i)
  else if x.1.k≠0∨t.size≤x.2∨ch t x.2≠63∨(endsS y.1).at_≠8 then (none,x.2)
  else
   let p:=blankP ((bl t).drop (x.2+1)) false (x.2+1)
   if p<t.size then (none,p) else (some (endsS y.1).q,0)
theorem parse_fin (t:ByteArray):parseS t=finT t (toksOf t).2 (takesS RS0 (toksOf t).1):=rfl
theorem hd_at {i:Nat} (h:i<t.size):hd ((bl t).drop i)=ch t i:=by rw [drop_ch h];rfl
theorem hd_off {i:Nat} (h:¬ i<t.size):hd ((bl t).drop i)=0:=by rw [drop_end h];rfl
/-- nothing is open: the place decides -/
theorem fin_clean {r:RS} {i c:Nat}:finT t (Tk0,i) (r,none)=outP t (.clean r i c):=by
 unfold finT outP
 simp only
 rw [if_neg (by rintro (h | h | h);exact absurd h.1 (by decide);exact absurd h (by decide);exact absurd h.1 (by decide))]
 by_cases hi:i<t.size
 ·rw [hd_at hi]
  by_cases h:ch t i≠63∨(endsS r).at_≠8
  ·rw [if_pos (.inr (.inr h)),if_pos h]
  ·rw [if_neg h,if_neg (by rintro (h' | h' | h');exact h' rfl;omega;exact h h')]
 ·rw [hd_off hi,if_pos (.inr (.inl (by omega))),if_pos (.inl (by decide))]
theorem fin_none {r:RS} {i:Nat} (h:hd ((bl t).drop i)≠63):finT t (Tk0,i) (r,none)=(none,i):=by
 rw [fin_clean (c:=0)]
 show (if _ then _ else _)=_
 rw [if_pos (.inl h)]
theorem out_none {r:RS} {i c:Nat} (h:hd ((bl t).drop i)≠63):outP t (.clean r i c)=(none,i):=by
 show (if _ then _ else _)=_
 rw [if_pos (.inl h)]
theorem pr_fin:∀ (n:Nat) (r:RS) (i:Nat) (jt:Int),t.size-i<n→finT t (toksP n ((bl t).drop i) i jt).2 (takesS r (toksP n ((bl t).drop i) i jt).1)=outP t (PR n r ((bl t).drop i) i jt)
 | 0,_,_,_,h=>absurd h (Nat.not_lt_zero _)
 | n+1,r,i,jt,h=>by
  rw [toksP,PR]
  by_cases hl:(bl t).drop i=[]
  ·rw [if_pos hl,if_pos hl]
   exact fin_clean
  rw [if_neg hl,if_neg hl]
  have hi:i<t.size:=by
   have:=List.length_pos_iff.2 hl
   rw [List.length_drop,bl_len] at this;omega
  obtain ⟨f1,f2,f3⟩:=next_facts i hl
  have f4:=next_le hi
  dsimp only
  by_cases hj:jt=(i:Int)∧Go.QP.Lt (hd ((bl t).drop i))
  ·have h63:hd ((bl t).drop i)≠63:=fun e=>by rw [e] at hj;exact absurd hj.2 (by decide)
   rw [if_pos hj]
   by_cases hw:WordK (nextP ((bl t).drop i) i).1.k∧jt=(i:Int)
   ·rw [if_pos hw]
    exact fin_none h63
   ·rw [if_neg hw]
    have hf:(nextP ((bl t).drop i) i).2=false:=by
     cases hb:(nextP ((bl t).drop i) i).2 with
     | false=>rfl
     | true=>
      exfalso
      apply hw
      refine ⟨?_,hj.1⟩
      have hlt:=hj.2
      generalize hu:(bl t).drop i=u at hlt hb hl ⊢
      have e:nextP u i=wordT u i:=by
       have h34:hd u≠34:=fun e=>by rw [e] at hlt;exact absurd hlt (by decide)
       have h58:hd u≠58:=fun e=>by rw [e] at hlt;exact absurd hlt (by decide)
       have h33:hd u≠33:=fun e=>by rw [e] at hlt;exact absurd hlt (by decide)
       have h0:¬ sign1 (hd u)≠0:=by
        unfold sign1
        rw [if_neg (fun e=>by rw [e] at hlt;exact absurd hlt (by decide)),if_neg (fun e=>by rw [e] at hlt;exact absurd hlt (by decide)),if_neg (fun e=>by rw [e] at hlt;exact absurd hlt (by decide)),if_neg (fun e=>by rw [e] at hlt;exact absurd hlt (by decide)),if_neg (fun e=>by rw [e] at hlt;exact absurd hlt (by decide))]
        exact not_not_intro rfl
       conv=>lhs;rw [hd_cons hl]
       rw [nextP,if_neg h34,if_neg h0,if_neg h58,if_neg h33,← hd_cons hl]
      rw [e] at hb ⊢
      unfold wordT at hb ⊢
      dsimp only at hb ⊢
      split
      ·rename_i hk;rw [if_pos hk] at hb;exact Bool.noConfusion hb
      ·rename_i hk
       exact (kind_word _).resolve_left hk
    rw [if_pos hf,next_lt hj.2 hf,if_pos rfl]
    exact fin_none h63
  ·rw [if_neg hj]
   have hw:¬ (WordK (nextP ((bl t).drop i) i).1.k∧jt=(i:Int)):=by
    rintro ⟨hw,hjt⟩
    refine hj ⟨hjt,?_⟩
-- a word begins with a letter
    have hb:=f3 hw
    generalize hu:(bl t).drop i=u at hw hb hl ⊢
    rw [hd_cons hl] at hw
    rw [nextP] at hw
    split at hw
    ·exact absurd rfl hw.2.2
    split at hw
    ·exfalso
     rename_i hs
     have:sign1 (hd u)=0∨8≤sign1 (hd u):=by unfold sign1;(repeat' split);all_goals omega
     have hw2:sign1 (hd u)<8:=hw.2.1
     omega
    split at hw
    ·exfalso;split at hw <;> exact absurd hw.2.1 (by show ¬ (13:Nat)<8;decide)
    split at hw
    ·exfalso;split at hw <;> exact absurd hw.2.1 (by show ¬ (14:Nat)<8;decide)
    ·unfold wordT at hw
     dsimp only at hw
     split at hw
     ·exact absurd hw.1 (by decide)
     ·rename_i hk
      rw [← hd_cons hl] at hk
      have h1:=kind_pos hk
      rw [sN_size,List.length_take] at h1
      cases u with
      | nil=>exact absurd rfl hl
      | cons c v=>
       by_cases hc:Go.QP.Lt c∧((decide (Dg ((c::v).headD 0)))=true→c≤57)
       ·exact hc.1
       ·rw [wordN,if_neg hc] at h1;omega
   rw [if_neg hw]
   cases hb:(nextP ((bl t).drop i) i).2 with
   | false=>
    rw [if_pos rfl,if_pos rfl]
    rcases f1 hb with hk | ⟨hk,hk2,hk3⟩ | ⟨hk,hk2⟩ | ⟨hk,hk2,hk3⟩
    ·rw [hk,if_pos rfl,if_pos rfl]
     exact fin_clean
    ·rw [hk,if_neg (by decide),if_neg (by decide),if_pos rfl]
     show finT t ((nextP ((bl t).drop i) i).1,(nextP ((bl t).drop i) i).1.j) (r,none)=_
     unfold finT
     simp only
     by_cases hwt:wantsS r.at_ 4
     ·rw [if_pos hwt,if_neg (by rintro (h' | h' | h');exact h'.2 hwt;omega;omega),if_pos (.inl (by omega))]
      rfl
     ·rw [if_neg hwt,if_pos (.inl ⟨hk,hwt⟩),hk2,out_none (by omega)]
    ·rw [hk,if_neg (by decide),if_neg (by decide),if_neg (by decide),if_neg (by decide)]
     show finT t ((nextP ((bl t).drop i) i).1,(nextP ((bl t).drop i) i).1.j) (r,none)=_
     unfold finT
     simp only
     rw [if_pos (.inr (.inl hk)),hk2]
     have h63:hd ((bl t).drop i)≠63:=fun e=>by
      rw [hd_cons hl,nextP,if_neg (by omega),if_neg (by rw [e];decide),if_neg (by omega),if_neg (by omega),← hd_cons hl,kind_63 _ _ e] at hk
      cases hk
     rw [out_none h63]
    ·rw [hk,if_neg (by decide),if_neg (by decide),if_neg (by decide),if_pos rfl]
     show finT t ((nextP ((bl t).drop i) i).1,(nextP ((bl t).drop i) i).1.j) (r,none)=_
     unfold finT
     simp only
     by_cases hwt:r.at_=2∨r.at_=6
     ·rw [if_pos hwt,if_neg (by rintro (h' | h' | h') <;> omega),if_pos (.inl (by omega))]
      rfl
     ·rw [if_neg hwt,if_pos (.inr (.inr ⟨hk,by omega⟩)),hk2,out_none (by omega)]
   | true=>
    rw [if_neg (show ¬ (true=false) by decide),if_neg (show ¬ (true=false) by decide)]
    obtain ⟨g1,g2⟩:=f2 hb
    have g3:=f4.2 hb
    cases ht:takeS r (nextP ((bl t).drop i) i).1.k (nextP ((bl t).drop i) i).1.s with
    | none=>
     simp only [takesS,ht]
     unfold finT
     simp only
     split
     ·rfl
     ·rw [out_none g2,g1]
    | some r'=>
     simp only [takesS,ht]
     have e1:dr ((bl t).drop i) i (nextP ((bl t).drop i) i).1.j=(bl t).drop (nextP ((bl t).drop i) i).1.j:=by unfold dr;rw [List.drop_drop];congr 1;omega
     have e0:((bl t).drop i).drop ((nextP ((bl t).drop i) i).1.j-i)=(bl t).drop (nextP ((bl t).drop i) i).1.j:=e1
     have h5:=(sk_le ((bl t).drop (nextP ((bl t).drop i) i).1.j) (nextP ((bl t).drop i) i).1.j).1
     rw [e1,e0]
     generalize hp:sk ((bl t).drop (nextP ((bl t).drop i) i).1.j) (nextP ((bl t).drop i) i).1.j=p at h5
     have hp':blankP ((bl t).drop (nextP ((bl t).drop i) i).1.j) false (nextP ((bl t).drop i) i).1.j=p:=hp
     rw [hp']
     have e2:dr ((bl t).drop i) i p=(bl t).drop p:=by unfold dr;rw [List.drop_drop];congr 1;omega
     have e3:((bl t).drop (nextP ((bl t).drop i) i).1.j).drop (p-(nextP ((bl t).drop i) i).1.j)=(bl t).drop p:=by rw [List.drop_drop];congr 1;omega
     rw [e2,e3]
     exact pr_fin n r' p _ (by omega)
/-- what stands where the way ends -/
def PwAt (t:ByteArray):Pw→Prop
 | .clean _ p c=>c=hd ((bl t).drop p)
 | .dirty _=>True
 | .word p=>Go.QP.Lt (hd ((bl t).drop p))
theorem pr_at:∀ (n:Nat) (r:RS) (i:Nat) (jt:Int),PwAt t (PR n r ((bl t).drop i) i jt)
 | 0,_,_,_=>rfl
 | n+1,r,i,jt=>by
  rw [PR]
  by_cases hl:(bl t).drop i=[]
  ·rw [if_pos hl];exact rfl
  rw [if_neg hl]
  have hi:i<t.size:=by
   have:=List.length_pos_iff.2 hl
   rw [List.length_drop,bl_len] at this;omega
  have f4:=next_le hi
  by_cases hj:jt=(i:Int)∧Go.QP.Lt (hd ((bl t).drop i))
  ·rw [if_pos hj];exact hj.2
  rw [if_neg hj]
  dsimp only
  cases hb:(nextP ((bl t).drop i) i).2 with
  | false=>
   rw [if_pos rfl]
   split
   ·exact rfl
   split
   ·split
    ·exact trivial
    ·exact rfl
   split
   ·split
    ·exact trivial
    ·exact rfl
   ·exact rfl
  | true=>
   rw [if_neg (show ¬ (true=false) by decide)]
   have g3:=f4.2 hb
   cases ht:takeS r (nextP ((bl t).drop i) i).1.k (nextP ((bl t).drop i) i).1.s with
   | none=>
    simp only
    split
    ·exact trivial
    ·exact rfl
   | some r'=>
    simp only
    have e1:dr ((bl t).drop i) i (nextP ((bl t).drop i) i).1.j=(bl t).drop (nextP ((bl t).drop i) i).1.j:=by unfold dr;rw [List.drop_drop];congr 1;omega
    have h5:=(sk_le ((bl t).drop (nextP ((bl t).drop i) i).1.j) (nextP ((bl t).drop i) i).1.j).1
    rw [e1]
    generalize hp:sk ((bl t).drop (nextP ((bl t).drop i) i).1.j) (nextP ((bl t).drop i) i).1.j=p at h5
    have e2:dr ((bl t).drop i) i p=(bl t).drop p:=by unfold dr;rw [List.drop_drop];congr 1;omega
    rw [e2]
    exact pr_at n r' p _
theorem sim_fin {e:Rs (List Qlit)} {w:Pw} (h:Sim e w) (hw:PwAt t w):outP t w=finR t e:=by
 cases w with
 | dirty p=>rw [show e= .bad p from h];rfl
 | word p=>
  have hw:Go.QP.Lt (hd ((bl t).drop p)):=hw
  rcases h with rfl | ⟨q,rfl⟩
  ·rfl
  ·have h63:hd ((bl t).drop p)≠63:=fun e=>by rw [e] at hw;exact absurd hw (by decide)
   show (none,p)=if _ then _ else _
   rw [if_pos h63]
 | clean r p c=>
  have hw:c=hd ((bl t).drop p):=hw
  have h:if (endsS r).at_=8∧c≠44 then e= .ok (endsS r).q p else e= .bad p:=h
  by_cases hc:(endsS r).at_=8∧c≠44
  ·rw [if_pos hc] at h
   rw [h]
   show (if _ then _ else _)=if _ then _ else _
   by_cases h63:hd ((bl t).drop p)≠63
   ·rw [if_pos (.inl h63),if_pos h63]
   ·rw [if_neg h63,if_neg (by rintro (h' | h');exact h63 h';exact h' hc.1)]
  ·rw [if_neg hc] at h
   rw [h]
   show (if _ then _ else _)=(none,p)
   rw [if_pos]
   by_cases h8:(endsS r).at_=8
   ·left
    have:c=44:=by
     by_cases h44:c=44
     ·exact h44
     ·exact absurd ⟨h8,h44⟩ hc
    omega
   ·exact .inr h8
/-- the program's answer, by the document's reader -/
theorem parse_ef (t:ByteArray):parseS t=finR t (EF RS0 (bl t) 0 0):=by
 have h0:=blankP_le (bl t) false 0
 have hn:t.size-blankP (bl t) false 0<t.size+1:=by omega
 rw [parse_fin]
 refine (pr_fin (t.size+1) RS0 (blankP (bl t) false 0) (-1) hn).trans ?_
 have hs:=ee_pr (t.size+1) RS0 ((bl t).drop (blankP (bl t) false 0)) (blankP (bl t) false 0) (-1) (by rw [List.length_drop,bl_len];omega) (by decide) jn_sign
 have ha:=pr_at (t:=t) (t.size+1) RS0 (blankP (bl t) false 0) (-1)
 rw [sim_fin hs ha]
 congr 1
 rw [ef_at,bl_len]
 rfl
end
end Go.QP
namespace Go.QP
open Go.Eng
def Rs.pos {α:Type}:Rs α→Nat
 | .bad p=>p
 | .ok _ j=>j
def Rs.sh {α:Type} (b:Nat):Rs α→Rs α
 | .bad p=>.bad (p+b)
 | .ok x j=>.ok x (j+b)
abbrev Rs.th {α β:Type} (e:Rs α) (g:α→Nat→Rs β):Rs β:=match e with | .bad p=>.bad p | .ok x j=>g x j
/-- the same up to a place `m` -/
def Cs {α:Type} (b m:Nat) (D:Prop) (e e':Rs α):Prop:=(e.pos<m∧e'=e.sh b)∨(m≤e.pos∧m+b≤e'.pos∧(D→e.pos=m→e'=e.sh b))
/-- the same up to a place `m`, as a whole -/
def CsE {α:Type} (b m:Nat) (D:Prop) (e e':Rs α):Prop:=(e.pos<m∧e'=e.sh b)∨(m≤e.pos∧m+b≤e'.pos∧(D→e.pos=m→(∃ p p',e= .bad p∧e'= .bad p')∨∃ x,e= .ok x m∧e'= .ok x (m+b+1)))
/-- what stands behind -/
def Dm (v v':List Nat):Prop:=v.head?=some 63∧v'=[10,46]
section
variable {α β:Type} {b m:Nat} {D:Prop}
theorem sh_pos (e:Rs α):(e.sh b).pos=e.pos+b:=by cases e <;> rfl
theorem cs_same {e e':Rs α} (h:e'=e.sh b):Cs b m D e e':=by
 by_cases hp:e.pos<m
 ·exact .inl ⟨hp,h⟩
 ·exact .inr ⟨by omega,by rw [h,sh_pos];omega,fun _ _=>h⟩
theorem cse_bad {p:Nat}:CsE b m D (.bad p:Rs α) (.bad (p+b)):=by
 by_cases hp:p<m
 ·exact .inl ⟨hp,rfl⟩
 ·exact .inr ⟨by show m≤p;omega,by show m+b≤p+b;omega,fun _ _=>.inl ⟨_,_,rfl,rfl⟩⟩
theorem cs_th {e e':Rs α} {g:α→Nat→Rs β} (h:Cs b m D e e') (h1:∀ x j,(g x j).pos=j) (h2:∀ x j,g x (j+b)=(g x j).sh b):Cs b m D (e.th g) (e'.th g):=by
 have hp:∀ e:Rs α,(e.th g).pos=e.pos:=fun e=>by cases e with | bad p=>rfl | ok x j=>exact h1 x j
 have hs:∀ e:Rs α,(e.sh b).th g=(e.th g).sh b:=fun e=>by cases e with | bad p=>rfl | ok x j=>exact h2 x j
 rcases h with ⟨a,c⟩ | ⟨a,c,d⟩
 ·exact .inl ⟨by rw [hp];exact a,by rw [c,hs]⟩
 ·exact .inr ⟨by rw [hp];exact a,by rw [hp];exact c,fun hD he=>by rw [hp] at he;rw [d hD he,hs]⟩
theorem cse_th {e e':Rs α} {g g':α→Nat→Rs β} (h:Cs b m D e e') (h1:∀ x j,e= .ok x j→j≤m→CsE b m D (g x j) (g' x (j+b))) (hg:∀ x j,e= .ok x j→j≤(g x j).pos) (hg':∀ x j,e'= .ok x j→j≤(g' x j).pos):CsE b m D (e.th g) (e'.th g'):=by
 rcases h with ⟨a,c⟩ | ⟨a,c,d⟩
 ·subst c
  cases e with
  | bad p=>exact cse_bad
  | ok x j=>exact h1 x j rfl (Nat.le_of_lt a)
 ·have hge:m≤(e.th g).pos:=by cases e with | bad p=>exact a | ok x j=>exact Nat.le_trans a (hg x j rfl)
  have hge':m+b≤(e'.th g').pos:=by cases e' with | bad p=>exact c | ok x j=>exact Nat.le_trans c (hg' x j rfl)
  refine .inr ⟨hge,hge',fun hD he=>?_⟩
  cases e with
  | bad p=>
   have he:p=m:=he
   rw [d hD he]
   exact .inl ⟨_,_,rfl,rfl⟩
  | ok x j=>
   have he:(g x j).pos=m:=he
   have h3:=hg x j rfl
   have h4:m≤j:=a
   have hj:j=m:=by omega
   have h5:=h1 x j rfl (by omega)
   rw [d hD hj]
   rcases h5 with ⟨h6,_⟩ | ⟨_,_,h6⟩
   ·omega
   ·exact h6 hD he
end
section
variable {b:Nat}
theorem wordN_cs (num:Bool) (v v':List Nat):∀ (n:Nat) (u:List Nat),(wordN num n (u++v)<u.length∧wordN num n (u++v')=wordN num n (u++v))∨(u.length≤wordN num n (u++v)∧u.length≤wordN num n (u++v')∧(Dm v v'→wordN num n (u++v)=u.length∧wordN num n (u++v')=u.length))
 | 0,[]=>.inr ⟨Nat.zero_le _,Nat.zero_le _,fun _=>⟨by rw [wordN];rfl,by rw [wordN];rfl⟩⟩
 | n+1,[]=>.inr ⟨Nat.zero_le _,Nat.zero_le _,fun h=>by
  obtain ⟨h1,rfl⟩:=h
  cases v with
  | nil=>cases h1
  | cons c w=>
   injection h1 with h1;subst h1
   exact ⟨by show wordN num (n+1) (63::w)=0;rw [wordN,if_neg (fun h=>absurd h.1 (by decide))],by show wordN num (n+1) [10,46]=0;rw [wordN,if_neg (fun h=>absurd h.1 (by decide))]⟩⟩
 | 0,c::u=>.inl ⟨by rw [wordN];exact Nat.succ_pos _,by rw [wordN,wordN]⟩
 | n+1,c::u=>by
  have ih:=wordN_cs num v v' n u
  rw [List.cons_append,List.cons_append,wordN,wordN,List.length_cons]
  by_cases hc:Go.QP.Lt c∧(num=true→c≤57)
  ·rw [if_pos hc,if_pos hc]
   rcases ih with ⟨a,c⟩ | ⟨a,c,d⟩
   ·exact .inl ⟨by omega,by omega⟩
   ·exact .inr ⟨by omega,by omega,fun h=>by have:=d h;omega⟩
  ·rw [if_neg hc,if_neg hc]
   exact .inl ⟨Nat.succ_pos _,rfl⟩
theorem take_app {u v:List Nat} {w:Nat} (h:w≤u.length):(u++v).take w=u.take w:=List.take_append_of_le_length h
theorem drop_app {u v:List Nat} {w:Nat} (h:w≤u.length):(u++v).drop w=u.drop w++v:=List.drop_append_of_le_length h
theorem run_pos' (l:List Nat) (i:Nat):i≤(runR l i).pos:=by
 unfold runR;split <;> (unfold Rs.pos;simp)
theorem digits_pos' (l:List Nat) (i:Nat):i≤(digitsR l i).pos:=by
 unfold digitsR;split
 ·unfold Rs.pos;simp
 split <;> (unfold Rs.pos;simp)
theorem text_pos' (l:List Nat) (i:Nat):i+1≤(textR l i).pos:=by
 have:=quotedP_le l.tail.length l.tail [] (i+1) (Nat.le_refl _)
 unfold textR;split <;> (unfold Rs.pos;exact this.1)
theorem name_pos' (l:List Nat) (i:Nat):i≤(nameR l i).pos:=by
 have:=run_pos' l i
 unfold nameR;split
 ·exact Nat.le_refl _
 ·cases h:runR l i with
  | bad p=>rw [h] at this;exact this
  | ok s j=>rw [h] at this;simp only;split <;> exact this
theorem term_pos' (l:List Nat) (i:Nat):i≤(termR l i).pos:=by
 have h1:=run_pos' l i
 have h2:=digits_pos' l i
 have h3:=text_pos' l i
 have h4:=name_pos' l i
 unfold termR
 split
 ·cases h:runR l i with
  | bad p=>rw [h] at h1;exact h1
  | ok s j=>rw [h] at h1;exact h1
 split
 ·cases h:digitsR l i with
  | bad p=>rw [h] at h2;exact h2
  | ok s j=>rw [h] at h2;exact h2
 split
 ·cases h:textR l i with
  | bad p=>rw [h] at h3;have h3:i+1≤p:=h3;show i≤p;omega
  | ok s j=>rw [h] at h3;have h3:i+1≤j:=h3;show i≤j;omega
 ·cases h:nameR l i with
  | bad p=>rw [h] at h4;exact h4
  | ok s j=>rw [h] at h4;exact h4
theorem run_cs (u v v':List Nat) (i:Nat):Cs b (i+u.length) (Dm v v') (runR (u++v) i) (runR (u++v') (i+b)):=by
 unfold runR
 rcases wordN_cs false v v' 65 u with ⟨h1,h2⟩ | ⟨h1,h2,h3⟩
 ·rw [h2]
  apply cs_same
  by_cases h65:wordN false 65 (u++v)=65
  ·rw [if_pos h65,if_pos h65];show Rs.bad (i+b+64)= .bad (i+64+b);congr 1;omega
  ·rw [if_neg h65,if_neg h65,take_app (by omega),take_app (by omega)];show Rs.ok _ _= .ok _ _;congr 1;omega
 ·have n1:=wordN_n false 65 (u++v)
  have n2:=wordN_n false 65 (u++v')
  by_cases hu:u.length=65
  ·rw [if_pos (by omega),if_pos (by omega)]
   apply cs_same;show Rs.bad (i+b+64)= .bad (i+64+b);congr 1;omega
  ·refine .inr ⟨?_,?_,fun hD _=>?_⟩
   ·split
    ·show _≤i+64;omega
    ·show _≤i+wordN false 65 (u++v);omega
   ·split
    ·show _≤i+b+64;omega
    ·show _≤i+b+wordN false 65 (u++v');omega
   ·obtain ⟨a1,a2⟩:=h3 hD
    rw [a1,a2,if_neg hu,if_neg hu,take_app (by omega),take_app (by omega)]
    show Rs.ok _ _= .ok _ _;congr 1;omega
theorem digits_cs (u v v':List Nat) (i:Nat):Cs b (i+u.length) (Dm v v') (digitsR (u++v) i) (digitsR (u++v') (i+b)):=by
 unfold digitsR
 rcases wordN_cs true v v' 65 u with ⟨h1,h2⟩ | ⟨h1,h2,h3⟩
 ·rw [h2]
  apply cs_same
  by_cases h65:wordN true 65 (u++v)=65
  ·rw [if_pos h65,if_pos h65];show Rs.bad (i+b+64)= .bad (i+64+b);congr 1;omega
  ·rw [if_neg h65,if_neg h65,take_app (by omega),take_app (by omega),drop_app (by omega),drop_app (by omega)]
   have hh:∀ w:List Nat,hd (u.drop (wordN true 65 (u++v))++w)=hd (u.drop (wordN true 65 (u++v))):=fun w=>by
    have:u.drop (wordN true 65 (u++v))≠[]:=fun e=>by have:=congrArg List.length e;rw [List.length_drop] at this;simp only [List.length_nil] at this;omega
    cases hq:u.drop (wordN true 65 (u++v)) with
    | nil=>exact absurd hq this
    | cons c r=>rfl
   have hw:∀ w:List Nat,Wordly (u.drop (wordN true 65 (u++v))++w)↔Wordly (u.drop (wordN true 65 (u++v))):=fun w=>by unfold Wordly;rw [hh]
   by_cases hq:Wordly (u.drop (wordN true 65 (u++v)))
   ·rw [if_pos ((hw _).2 hq),if_pos ((hw _).2 hq)];show Rs.bad _= .bad _;congr 1;omega
   ·rw [if_neg (fun h=>hq ((hw _).1 h)),if_neg (fun h=>hq ((hw _).1 h))];show Rs.ok _ _= .ok _ _;congr 1;omega
 ·have n1:=wordN_n true 65 (u++v)
  have n2:=wordN_n true 65 (u++v')
  by_cases hu:u.length=65
  ·rw [if_pos (by omega),if_pos (by omega)]
   apply cs_same;show Rs.bad (i+b+64)= .bad (i+64+b);congr 1;omega
  ·refine .inr ⟨?_,?_,fun hD _=>?_⟩
   ·split
    ·show _≤i+64;omega
    split
    ·show _≤i+wordN true 65 (u++v);omega
    ·show _≤i+wordN true 65 (u++v);omega
   ·split
    ·show _≤i+b+64;omega
    split
    ·show _≤i+b+wordN true 65 (u++v');omega
    ·show _≤i+b+wordN true 65 (u++v');omega
   ·obtain ⟨a1,a2⟩:=h3 hD
    have d1:(u++v).drop u.length=v:=by rw [drop_app (Nat.le_refl _),List.drop_length,List.nil_append]
    have d2:(u++v').drop u.length=v':=by rw [drop_app (Nat.le_refl _),List.drop_length,List.nil_append]
    obtain ⟨e1,e2⟩:=hD
    have w1:¬ Wordly v:=by
     cases v with
     | nil=>cases e1
     | cons c w=>injection e1 with e1;subst e1;show ¬ (Sm 63∨Gr 63∨Dg 63);decide
    have w2:¬ Wordly v':=by rw [e2];show ¬ (Sm 10∨Gr 10∨Dg 10);decide
    rw [a1,a2,if_neg hu,if_neg hu,d1,d2,if_neg w1,if_neg w2,take_app (by omega),take_app (by omega)]
    show Rs.ok _ _= .ok _ _;congr 1;omega
end
end Go.QP
namespace Go.QP
open Go.Eng
section
variable {b:Nat}
abbrev Q3:=List Nat × Nat × Bool
def shQ (b:Nat) (x:Q3):Q3:=(x.1,x.2.1+b,x.2.2)
/-- the same for a string -/
def Qs (b m:Nat) (D:Prop) (x y:Q3):Prop:=y=shQ b x∨(m≤x.2.1∧m+b≤y.2.1∧(D→x.2.1=m→y=shQ b x))
theorem slash_ge (l bb:List Nat) (i:Nat):i≤(slashP l bb i).2.1:=by
 have hq:∀ (l bb:List Nat) (i:Nat),i≤(quotedP l bb i).2.1:=fun l bb i=>(quotedP_le l.length l bb i (Nat.le_refl _)).1
 unfold slashP
 split
 ·exact Nat.le_refl _
 split
 ·exact Nat.le_trans (Nat.le_succ _) (hq _ _ _)
 split
 ·exact Nat.le_trans (Nat.le_succ _) (hq _ _ _)
 split
 ·exact Nat.le_trans (Nat.le_succ _) (hq _ _ _)
 split
 ·unfold firstP
  split
  ·exact Nat.le_succ _
  split
  ·exact Nat.le_succ _
  split
  ·simp only;omega
  split
  ·simp only;omega
  ·exact Nat.le_trans (by omega) (hq _ _ _)
 ·exact Nat.le_refl _
theorem first_ge (l bb:List Nat) (i:Nat):i≤(firstP l bb i).2.1:=by
 have hq:∀ (l bb:List Nat) (i:Nat),i≤(quotedP l bb i).2.1:=fun l bb i=>(quotedP_le l.length l bb i (Nat.le_refl _)).1
 unfold firstP
 split
 ·exact Nat.le_refl _
 split
 ·exact Nat.le_refl _
 split
 ·exact Nat.le_succ _
 split
 ·exact Nat.le_succ _
 ·exact Nat.le_trans (by omega) (hq _ _ _)
theorem qs_sh {m:Nat} {D:Prop} {x y:Q3} (h:y=shQ b x):Qs b m D x y:=.inl h
theorem quoted_ge (l bb:List Nat) (i:Nat):i≤(quotedP l bb i).2.1:=(quotedP_le l.length l bb i (Nat.le_refl _)).1
theorem quoted_cs (v v':List Nat):∀ (N:Nat) (u bb:List Nat) (i:Nat),u.length≤N→Qs b (i+u.length) (Dm v v') (quotedP (u++v) bb i) (quotedP (u++v') bb (i+b))
 | N,[],bb,i,_=>by
  refine .inr ⟨quoted_ge _ _ _,quoted_ge _ _ _,fun hD he=>?_⟩
  obtain ⟨h1,rfl⟩:=hD
  cases v with
  | nil=>cases h1
  | cons c w=>
   injection h1 with h1;subst h1
   show quotedP [10,46] bb (i+b)=shQ b (quotedP (63::w) bb i)
   have he:(quotedP (63::w) bb i).2.1=i:=he
   rw [quotedP_cons,if_neg (by decide),if_pos (.inr (.inl (by decide)))]
   rw [quotedP_cons,if_neg (by decide)] at he ⊢
   by_cases hf:bb.length=1024∨63<32∨126<63
   ·rw [if_pos hf];rfl
   ·rw [if_neg hf,if_neg (by decide)] at he
    have:=quoted_ge w (bb++[63]) (i+1)
    omega
 | 0,c::u,bb,i,h=>absurd h (by rw [List.length_cons];omega)
 | N+1,c::u,bb,i,h=>by
  rw [List.length_cons] at h
  rw [List.cons_append,List.cons_append,quotedP_cons,quotedP_cons,List.length_cons]
  have sh1:∀ (x:List Nat) (w:Bool) (j:Nat),(x,j+b,w)=shQ b (x,j,w):=fun _ _ _=>rfl
  by_cases h34:c=34
  ·rw [if_pos h34,if_pos h34];exact qs_sh (by show _=(bb,i+1+b,true);congr 2;omega)
  rw [if_neg h34,if_neg h34]
  by_cases hf:bb.length=1024∨c<32∨126<c
  ·rw [if_pos hf,if_pos hf];exact qs_sh rfl
  rw [if_neg hf,if_neg hf]
  have rec_:∀ (d:Nat) (u':List Nat) (x:List Nat),u'.length+d=u.length+1→1≤d→Qs b (i+(u.length+1)) (Dm v v') (quotedP (u'++v) x (i+d)) (quotedP (u'++v') x (i+b+d)):=fun d u' x hd h1=>by
   have:=quoted_cs v v' N u' x (i+d) (by omega)
   rw [show i+d+u'.length=i+(u.length+1) by omega,show i+d+b=i+b+d by omega] at this
   exact this
  by_cases h92:c=92
  ·rw [if_pos h92,if_pos h92]
   cases u with
   | nil=>
    refine .inr ⟨slash_ge _ _ _,Nat.le_trans (by simp only [List.length_nil];omega) (slash_ge _ _ _),fun hD he=>?_⟩
    obtain ⟨h1,rfl⟩:=hD
    cases v with
    | nil=>cases h1
    | cons c' w=>
     injection h1 with h1;subst h1
     show slashP [10,46] bb (i+b+1)=shQ b (slashP (63::w) bb (i+1))
     show (([],i+b+1,false):Q3)=([],i+1+b,false)
     congr 2;omega
   | cons d u1=>
    have hl:(d::u1).length=u1.length+1:=rfl
    rw [List.cons_append,List.cons_append]
    unfold slashP
    simp only
    by_cases a1:d=34∨d=92
    ·rw [if_pos a1,if_pos a1];exact rec_ 2 u1 _ (by omega) (by omega)
    rw [if_neg a1,if_neg a1]
    by_cases a2:d=110
    ·rw [if_pos a2,if_pos a2];exact rec_ 2 u1 _ (by omega) (by omega)
    rw [if_neg a2,if_neg a2]
    by_cases a3:d=116
    ·rw [if_pos a3,if_pos a3];exact rec_ 2 u1 _ (by omega) (by omega)
    rw [if_neg a3,if_neg a3]
    by_cases a4:d=120
    ·rw [if_pos a4,if_pos a4]
     cases u1 with
     | nil=>
      refine .inr ⟨Nat.le_trans (by simp only [List.length_cons,List.length_nil];omega) (first_ge _ _ _),Nat.le_trans (by simp only [List.length_cons,List.length_nil];omega) (first_ge _ _ _),fun hD he=>?_⟩
      obtain ⟨h1,rfl⟩:=hD
      cases v with
      | nil=>cases h1
      | cons c' w=>
       injection h1 with h1;subst h1
       show firstP [10,46] bb (i+b+1+1)=shQ b (firstP (63::w) bb (i+1+1))
       rw [firstP_n (by decide),firstP_n (by decide)]
       show (([],i+b+1+1,false):Q3)=([],i+1+1+b,false)
       congr 2;omega
     | cons e u2=>
      rw [List.cons_append,List.cons_append]
      by_cases a5:hx e<0
      ·rw [firstP_n a5,firstP_n a5]
       exact qs_sh (by show _=(_,i+1+1+b,_);congr 2;omega)
      ·cases u2 with
       | nil=>
        have hfg:∀ (w:List Nat) (j:Nat),j+1≤(firstP (e::w) bb j).2.1:=fun w j=>by
         unfold firstP
         simp only
         rw [if_neg a5]
         split
         ·exact Nat.le_refl _
         split
         ·exact Nat.le_refl _
         ·exact Nat.le_trans (by omega) (quoted_ge _ _ _)
        refine .inr ⟨Nat.le_trans (by simp only [List.length_cons,List.length_nil];omega) (hfg _ _),Nat.le_trans (by simp only [List.length_cons,List.length_nil];omega) (hfg _ _),fun hD he=>?_⟩
        obtain ⟨h1,rfl⟩:=hD
        cases v with
        | nil=>cases h1
        | cons c' w=>
         injection h1 with h1;subst h1
         show firstP (e::10::[46]) bb (i+b+1+1)=shQ b (firstP (e::63::w) bb (i+1+1))
         rw [firstP_2,firstP_2,if_neg a5,if_neg a5,if_pos (by decide),if_pos (by decide)]
         show (([],i+b+1+1+1,false):Q3)=([],i+1+1+1+b,false)
         congr 2;omega
       | cons f u3=>
        rw [List.cons_append,List.cons_append,firstP_2,firstP_2,if_neg a5,if_neg a5]
        by_cases a6:hx f<0
        ·rw [if_pos a6,if_pos a6]
         exact qs_sh (by show _=(_,i+1+1+1+b,_);congr 2;omega)
        ·rw [if_neg a6,if_neg a6]
         exact rec_ 4 u3 _ (by simp only [List.length_cons]) (by omega)
    ·rw [if_neg a4,if_neg a4]
     exact qs_sh (by show _=(_,i+1+b,_);congr 2;omega)
  ·rw [if_neg h92,if_neg h92]
   exact rec_ 1 u _ (by omega) (by omega)
theorem blank_cs (v v':List Nat):∀ (u:List Nat) (rm:Bool) (i:Nat),(blankP (u++v) rm i<i+u.length∧blankP (u++v') rm (i+b)=blankP (u++v) rm i+b)∨(i+u.length≤blankP (u++v) rm i∧i+u.length+b≤blankP (u++v') rm (i+b)∧(Dm v v'→blankP (u++v) rm i=i+u.length→blankP (u++v') rm (i+b)=i+u.length+b+1))
 | [],rm,i=>by
  refine .inr ⟨(blankP_le _ _ _).1,(blankP_le _ _ _).1,fun hD he=>?_⟩
  obtain ⟨h1,rfl⟩:=hD
  cases v with
  | nil=>cases h1
  | cons c w=>
   injection h1 with h1;subst h1
   cases rm with
   | true=>
    have he:blankP (63::w) true i=i:=he
    rw [blankP] at he
    have:=(blankP_le w (decide (63≠10)) (i+1)).1
    omega
   | false=>rfl
 | c::u,true,i=>by
  have ih:=blank_cs v v' u (decide (c≠10)) (i+1)
  rw [List.cons_append,List.cons_append,blankP,blankP,List.length_cons]
  rw [show i+1+b=i+b+1 by omega,show i+1+u.length=i+(u.length+1) by omega] at ih
  exact ih
 | c::u,false,i=>by
  rw [List.cons_append,List.cons_append,blankP,blankP,List.length_cons]
  by_cases h37:c=37
  ·rw [if_pos h37,if_pos h37]
   have ih:=blank_cs v v' u true (i+1)
   rw [show i+1+b=i+b+1 by omega,show i+1+u.length=i+(u.length+1) by omega] at ih
   exact ih
  rw [if_neg h37,if_neg h37]
  by_cases hb:c≠32∧c≠9∧c≠10∧c≠13
  ·rw [if_pos hb,if_pos hb]
   exact .inl ⟨by omega,rfl⟩
  ·rw [if_neg hb,if_neg hb]
   have ih:=blank_cs v v' u false (i+1)
   rw [show i+1+b=i+b+1 by omega,show i+1+u.length=i+(u.length+1) by omega] at ih
   exact ih
theorem hd_app {u:List Nat} (h:u≠[]) (v:List Nat):hd (u++v)=hd u:=by cases u with | nil=>exact absurd rfl h | cons c w=>rfl
theorem text_cs {u:List Nat} (h:u≠[]) (v v':List Nat) (i:Nat):Cs b (i+u.length) (Dm v v') (textR (u++v) i) (textR (u++v') (i+b)):=by
 cases u with
 | nil=>exact absurd rfl h
 | cons c u=>
  have hq:=quoted_cs (b:=b) v v' u.length u [] (i+1) (Nat.le_refl _)
  rw [show i+1+b=i+b+1 by omega,show i+1+u.length=i+(u.length+1) by omega] at hq
  have ht:∀ (w:List Nat) (j:Nat),textR (c::w) j=if (quotedP w [] (j+1)).2.2=true then .ok (sN (quotedP w [] (j+1)).1) (quotedP w [] (j+1)).2.1 else .bad (quotedP w [] (j+1)).2.1:=fun _ _=>rfl
  rw [List.cons_append,List.cons_append,ht,ht,List.length_cons]
  have hp:∀ x:Q3,(if x.2.2=true then Rs.ok (sN x.1) x.2.1 else Rs.bad x.2.1).pos=x.2.1:=fun x=>by split <;> rfl
  have hs:∀ x:Q3,(if (shQ b x).2.2=true then Rs.ok (sN (shQ b x).1) (shQ b x).2.1 else Rs.bad (shQ b x).2.1)=(if x.2.2=true then Rs.ok (sN x.1) x.2.1 else Rs.bad x.2.1).sh b:=fun x=>by
   show (if x.2.2=true then Rs.ok (sN x.1) (x.2.1+b) else Rs.bad (x.2.1+b))=_
   split <;> rfl
  rcases hq with hq | ⟨h1,h2,h3⟩
  ·rw [hq];exact cs_same (hs _)
  ·exact .inr ⟨by rw [hp];exact h1,by rw [hp];exact h2,fun hD he=>by rw [hp] at he;rw [h3 hD he];exact hs _⟩
theorem name_th (l:List Nat) (i:Nat):nameR l i=if ¬ Sm (hd l) then .bad i else (runR l i).th fun s j=>if Rsv s then .bad j else .ok s j:=by
 unfold nameR
 cases runR l i <;> rfl
theorem term_th (l:List Nat) (i:Nat):termR l i=if Gr (hd l) then (runR l i).th fun s j=>.ok (true,s) j else if Dg (hd l) then (digitsR l i).th fun s j=>.ok (false,s) j else if hd l=34 then (textR l i).th fun s j=>.ok (false,s) j else (nameR l i).th fun s j=>.ok (false,s) j:=by
 unfold termR
 cases runR l i <;> cases digitsR l i <;> cases textR l i <;> cases nameR l i <;> rfl
theorem name_cs {u:List Nat} (h:u≠[]) (v v':List Nat) (i:Nat):Cs b (i+u.length) (Dm v v') (nameR (u++v) i) (nameR (u++v') (i+b)):=by
 rw [name_th,name_th,hd_app h,hd_app h]
 by_cases hs:Sm (hd u)
 ·rw [if_neg (not_not_intro hs),if_neg (not_not_intro hs)]
  exact cs_th (run_cs u v v' i) (fun x j=>by split <;> rfl) (fun x j=>by split <;> rfl)
 ·rw [if_pos hs,if_pos hs]
  exact cs_same rfl
theorem term_cs {u:List Nat} (h:u≠[]) (v v':List Nat) (i:Nat):Cs b (i+u.length) (Dm v v') (termR (u++v) i) (termR (u++v') (i+b)):=by
 rw [term_th,term_th,hd_app h,hd_app h]
 by_cases hg:Gr (hd u)
 ·rw [if_pos hg,if_pos hg]
  exact cs_th (run_cs u v v' i) (fun _ _=>rfl) (fun _ _=>rfl)
 rw [if_neg hg,if_neg hg]
 by_cases hd_:Dg (hd u)
 ·rw [if_pos hd_,if_pos hd_]
  exact cs_th (digits_cs u v v' i) (fun _ _=>rfl) (fun _ _=>rfl)
 rw [if_neg hd_,if_neg hd_]
 by_cases ht:hd u=34
 ·rw [if_pos ht,if_pos ht]
  exact cs_th (text_cs h v v' i) (fun _ _=>rfl) (fun _ _=>rfl)
 ·rw [if_neg ht,if_neg ht]
  exact cs_th (name_cs h v v' i) (fun _ _=>rfl) (fun _ _=>rfl)
end
end Go.QP
namespace Go.QP
open Go.Eng
section
variable {q:List Qlit} {a:Nat} {now:Qlit} {l:List Nat} {i j k:Nat}
theorem ef_sk {r:RS} (h:i≤j):EF r l i j=EF r l i (sk (dr l i j) j):=by
 unfold EF
 rw [sk_idem' h]
theorem t0 (h:i≤j) (hk:sk (dr l i j) j=k):EF ⟨q,0,now⟩ l i j=if ¬ Sm (hd (dr l i k)) then (termR (dr l i k) k).th fun x k=>EF ⟨q,6,⟨3,ByteArray.empty,[],x,Tm0⟩⟩ l i k
  else (runR (dr l i k) k).th fun s k=>if s.toList=NOT.toList then EF ⟨q,1,{ now with kind:=2 }⟩ l i k else if Rsv s then .bad k else EF ⟨q,2,{ now with pred:=s }⟩ l i k:=by
 rw [ef_0 h,hk]
 cases termR (dr l i k) k <;> cases runR (dr l i k) k <;> rfl
theorem t1 (h:i≤j) (hk:sk (dr l i j) j=k):EF ⟨q,1,now⟩ l i j=(nameR (dr l i k) k).th fun s k=>EF ⟨q,3,{ now with pred:=s }⟩ l i k:=by
 rw [ef_1 h,hk]
 cases nameR (dr l i k) k <;> rfl
theorem t4 (h:i≤j) (hk:sk (dr l i j) j=k):EF ⟨q,4,now⟩ l i j=(termR (dr l i k) k).th fun x k=>EF ⟨q,5,{ now with args:=now.args++[x] }⟩ l i k:=by
 rw [ef_4 h,hk]
 cases termR (dr l i k) k <;> rfl
theorem t7 (h:i≤j) (hk:sk (dr l i j) j=k):EF ⟨q,7,now⟩ l i j=(termR (dr l i k) k).th fun x k=>EF ⟨q++[{ now with right:=x }],8,Qlit0⟩ l i k:=by
 rw [ef_7 h,hk]
 cases termR (dr l i k) k <;> rfl
/-- the state behind a literal, at the place behind blanks -/
theorem t8 (h:i≤j) (hk:sk (dr l i j) j=k):EF ⟨q,8,now⟩ l i k=if hd (dr l i k)=44 then (if q.length<256 then EF ⟨q,0,now⟩ l i (k+1) else .bad k) else .ok q k:=by
 have h1:j≤k:=by rw [← hk];exact (sk_le _ _).1
 have h2:sk (dr l i k) k=k:=by rw [← hk];exact sk_idem' h
 rw [ef_8 (by omega),h2]
theorem t6 (h:i≤j) (hk:sk (dr l i j) j=k):EF ⟨q,6,now⟩ l i k=if hd (dr l i k)=33 then (if hd (dr l i (k+1))=61 then EF ⟨q,7,now⟩ l i (k+2) else .bad (k+1)) else .bad k:=by
 have h1:j≤k:=by rw [← hk];exact (sk_le _ _).1
 have h2:sk (dr l i k) k=k:=by rw [← hk];exact sk_idem' h
 rw [ef_6 (by omega),h2]
theorem t5 (h:i≤j) (hk:sk (dr l i j) j=k):EF ⟨q,5,now⟩ l i j=if hd (dr l i k)=44 then (if now.args.length<16 then EF ⟨q,4,now⟩ l i (k+1) else .bad k) else if hd (dr l i k)=41 then EF ⟨q++[now],8,Qlit0⟩ l i (k+1) else .bad k:=by
 rw [ef_5 h,hk]
theorem t3 (h:i≤j) (hk:sk (dr l i j) j=k):EF ⟨q,3,now⟩ l i j=if hd (dr l i k)=40 then EF ⟨q,4,now⟩ l i (k+1) else EF ⟨q++[now],8,Qlit0⟩ l i k:=by
 rw [ef_3 h,hk]
theorem t2 (h:i≤j) (hk:sk (dr l i j) j=k):EF ⟨q,2,now⟩ l i j=if hd (dr l i k)=33 then EF ⟨q,6,⟨3,ByteArray.empty,[],(false,now.pred),Tm0⟩⟩ l i k else if hd (dr l i k)=40 then EF ⟨q,4,{ now with kind:=1 }⟩ l i (k+1) else EF ⟨q++[{ now with kind:=1 }],8,Qlit0⟩ l i k:=by
 rw [ef_2 h,hk]
theorem at_cases (h:a≤8):a=0∨a=1∨a=2∨a=3∨a=4∨a=5∨a=6∨a=7∨a=8:=by omega
theorem th_ge {α β:Type} {e:Rs α} {g:α→Nat→Rs β} {k:Nat} (h:k≤e.pos) (hg:∀ x p,e= .ok x p→p≤(g x p).pos):k≤(e.th g).pos:=by
 cases e with
 | bad p=>exact h
 | ok x p=>exact Nat.le_trans h (hg x p rfl)
theorem ef_ge:∀ (N:Nat) (l:List Nat) (i j:Nat) (q:List Qlit) (a:Nat) (now:Qlit),i≤j→(dr l i j).length<N→a≤8→j≤(EF ⟨q,a,now⟩ l i j).pos
 | 0,_,_,_,_,_,_,_,h,_=>absurd h (Nat.not_lt_zero _)
 | N+1,l,i,j,q,a,now,h,hn,ha=>by
  have hj:j≤sk (dr l i j) j:=(sk_le _ _).1
  generalize hk:sk (dr l i j) j=k at hj
  suffices hs:k≤(EF ⟨q,a,now⟩ l i j).pos by omega
  have nx:∀ (k2:Nat) (q:List Qlit) (a:Nat) (now:Qlit),k<k2→dr l i k≠[]→a≤8→k2≤(EF ⟨q,a,now⟩ l i k2).pos:=fun k2 q a now h2 hl ha=>by
   have h5:0<(dr l i k).length:=List.length_pos_iff.2 hl
   rw [dr_len] at h5 hn
   exact ef_ge N l i k2 q a now (by omega) (by rw [dr_len];omega) ha
  have s8:∀ q now,k≤(EF ⟨q,8,now⟩ l i k).pos:=fun q now=>by
   rw [t8 h hk]
   split
   ·rename_i hc
    split
    ·exact Nat.le_trans (by omega) (nx (k+1) q 0 now (by omega) (hd_lt hc (by decide)) (by decide))
    ·exact Nat.le_refl _
   ·exact Nat.le_refl _
  have s6:∀ q now,k≤(EF ⟨q,6,now⟩ l i k).pos:=fun q now=>by
   rw [t6 h hk]
   split
   ·rename_i hc
    split
    ·exact Nat.le_trans (by omega) (nx (k+2) q 7 now (by omega) (hd_lt hc (by decide)) (by decide))
    ·exact Nat.le_succ _
   ·exact Nat.le_refl _
  rcases at_cases ha with rfl | rfl | rfl | rfl | rfl | rfl | rfl | rfl | rfl
  ·rw [t0 h hk]
   by_cases hs:Sm (hd (dr l i k))
   ·rw [if_neg (not_not_intro hs)]
    refine th_ge (run_pos' _ _) fun s p hr=>?_
    have h2:=run_pos (.inl hs) hr
    have hl:dr l i k≠[]:=lt_ne (.inl hs)
    split
    ·exact nx _ _ _ _ h2 hl (by decide)
    split
    ·exact Nat.le_refl _
    ·exact nx _ _ _ _ h2 hl (by decide)
   ·rw [if_pos hs]
    exact th_ge (term_pos' _ _) fun s p hr=>nx _ _ _ _ (term_pos hr).1 (term_pos hr).2 (by decide)
  ·rw [t1 h hk]
   exact th_ge (name_pos' _ _) fun s p hr=>nx _ _ _ _ (name_pos hr).1 (name_pos hr).2 (by decide)
  ·rw [t2 h hk]
   split
   ·exact s6 _ _
   split
   ·rename_i hc
    exact Nat.le_trans (by omega) (nx (k+1) _ 4 _ (by omega) (hd_lt hc (by decide)) (by decide))
   ·exact s8 _ _
  ·rw [t3 h hk]
   split
   ·rename_i hc
    exact Nat.le_trans (by omega) (nx (k+1) _ 4 _ (by omega) (hd_lt hc (by decide)) (by decide))
   ·exact s8 _ _
  ·rw [t4 h hk]
   exact th_ge (term_pos' _ _) fun s p hr=>nx _ _ _ _ (term_pos hr).1 (term_pos hr).2 (by decide)
  ·rw [t5 h hk]
   split
   ·rename_i hc
    split
    ·exact Nat.le_trans (by omega) (nx (k+1) _ 4 _ (by omega) (hd_lt hc (by decide)) (by decide))
    ·exact Nat.le_refl _
   split
   ·rename_i hc
    exact Nat.le_trans (by omega) (nx (k+1) _ 8 _ (by omega) (hd_lt hc (by decide)) (by decide))
   ·exact Nat.le_refl _
  ·rw [ef_sk h,hk];exact s6 _ _
  ·rw [t7 h hk]
   exact th_ge (term_pos' _ _) fun s p hr=>nx _ _ _ _ (term_pos hr).1 (term_pos hr).2 (by decide)
  ·rw [ef_sk h,hk];exact s8 _ _
theorem ef_ge' (h:i≤j) (ha:a≤8):j≤(EF ⟨q,a,now⟩ l i j).pos:=ef_ge ((dr l i j).length+1) l i j q a now h (Nat.lt_succ_self _) ha
/-- a byte with which nothing begins, and nothing goes on -/
def Quiet (c:Nat):Prop:=¬ Sm c∧¬ Gr c∧¬ Dg c∧c≠34∧c≠33∧c≠40∧c≠41∧c≠44
theorem quiet_63:Quiet 63:=by unfold Quiet;decide
theorem quiet_46:Quiet 46:=by unfold Quiet;decide
theorem quiet_0:Quiet 0:=by unfold Quiet;decide
theorem name_quiet {L:List Nat} (h:Quiet (hd L)):nameR L k= .bad k:=by unfold nameR;rw [if_pos h.1]
theorem term_quiet {L:List Nat} (h:Quiet (hd L)):termR L k= .bad k:=by
 rw [term_th,if_neg h.2.1,if_neg h.2.2.1,if_neg h.2.2.2.1,name_quiet h]
theorem ef_quiet (h:i≤j) (hk:sk (dr l i j) j=k) (ha:a≤8) (hc:Quiet (hd (dr l i k))):EF ⟨q,a,now⟩ l i j=if (endsS ⟨q,a,now⟩).at_=8 then .ok (endsS ⟨q,a,now⟩).q k else .bad k:=by
 have c33:=hc.2.2.2.2.1
 have c40:=hc.2.2.2.2.2.1
 have c41:=hc.2.2.2.2.2.2.1
 have c44:=hc.2.2.2.2.2.2.2
 rcases at_cases ha with rfl | rfl | rfl | rfl | rfl | rfl | rfl | rfl | rfl
 ·rw [t0 h hk,if_pos hc.1,term_quiet hc];rfl
 ·rw [t1 h hk,name_quiet hc];rfl
 ·rw [t2 h hk,if_neg c33,if_neg c40,t8 h hk,if_neg c44];rfl
 ·rw [t3 h hk,if_neg c40,t8 h hk,if_neg c44];rfl
 ·rw [t4 h hk,term_quiet hc];rfl
 ·rw [t5 h hk,if_neg c44,if_neg c41];rfl
 ·rw [ef_sk h,hk,t6 h hk,if_neg c33];rfl
 ·rw [t7 h hk,term_quiet hc];rfl
 ·rw [ef_sk h,hk,t8 h hk,if_neg c44];rfl
end
section
variable {b:Nat}
set_option maxHeartbeats 2000000 in
/-- the reader as a whole -/
theorem ef_cs (v v':List Nat):∀ (N:Nat) (u:List Nat) (i:Nat) (q:List Qlit) (a:Nat) (now:Qlit),u.length<N→a≤8→CsE b (i+u.length) (Dm v v') (EF ⟨q,a,now⟩ (u++v) i i) (EF ⟨q,a,now⟩ (u++v') (i+b) (i+b))
 | 0,_,_,_,_,_,h,_=>absurd h (Nat.not_lt_zero _)
 | N+1,u,i,q,a,now,hn,ha=>by
  have hi:=Nat.le_refl i
  have hi':=Nat.le_refl (i+b)
  have hb:=blank_cs (b:=b) v v' u false i
  generalize hk:sk (dr (u++v) i i) i=k
  generalize hk':sk (dr (u++v') (i+b) (i+b)) (i+b)=k'
  have hik:i≤k:=by rw [← hk];exact (sk_le _ _).1
  have hik':i+b≤k':=by rw [← hk'];exact (sk_le _ _).1
  have e1:blankP (u++v) false i=k:=by rw [← hk,dr_self]
  have e2:blankP (u++v') false (i+b)=k':=by rw [← hk',dr_self]
  rw [e1,e2] at hb
  generalize hm:i+u.length=m at hb ⊢
  rcases hb with ⟨h1,h2⟩ | ⟨h1,h2,h3⟩
  ·-- it stands ahead of the end
   subst h2
   have hU:dr (u++v) i k=u.drop (k-i)++v:=drop_app (by omega)
   have hU':dr (u++v') (i+b) (k+b)=u.drop (k-i)++v':=by
    unfold dr;rw [show k+b-(i+b)=k-i by omega];exact drop_app (by omega)
   generalize hUU:u.drop (k-i)=U at hU hU'
   have hlen:k+U.length=m:=by rw [← hUU,List.length_drop];omega
   have hne:U≠[]:=fun e=>by rw [e] at hlen;simp only [List.length_nil] at hlen;omega
   have nx:∀ (k2:Nat) (q:List Qlit) (a:Nat) (now:Qlit),k<k2→k2≤m→a≤8→CsE b m (Dm v v') (EF ⟨q,a,now⟩ (u++v) i k2) (EF ⟨q,a,now⟩ (u++v') (i+b) (k2+b)):=fun k2 q a now h4 h5 ha=>by
    have:=ef_cs v v' N (u.drop (k2-i)) k2 q a now (by rw [List.length_drop];omega) ha
    rw [List.length_drop,show k2+(u.length-(k2-i))=m by omega,← drop_app (v:=v) (by omega),← drop_app (v:=v') (by omega)] at this
    have d1:(u++v).drop (k2-i)=dr (u++v) i k2:=rfl
    have d2:(u++v').drop (k2-i)=dr (u++v') (i+b) (k2+b):=by unfold dr;congr 1;omega
    rw [d1,d2,ef_dr (by omega) (Nat.le_refl _),ef_dr (by omega) (Nat.le_refl _)] at this
    exact this
   have c1:hd (dr (u++v) i k)=hd U:=by rw [hU,hd_app hne]
   have c2:hd (dr (u++v') (i+b) (k+b))=hd U:=by rw [hU',hd_app hne]
   have tm:∀ f:Tm→RS,(∀ x,(f x).at_≤8)→CsE b m (Dm v v') ((termR (dr (u++v) i k) k).th fun x k=>EF (f x) (u++v) i k) ((termR (dr (u++v') (i+b) (k+b)) (k+b)).th fun x k=>EF (f x) (u++v') (i+b) k):=fun f hf=>by
    have hc:=term_cs (b:=b) hne v v' k
    rw [← hU,← hU',hlen] at hc
    refine cse_th hc (fun x j hx hj=>?_) (fun x j hx=>?_) (fun x j hx=>?_)
    ·exact nx j _ _ _ (term_pos hx).1 hj (hf x)
    ·have:=(term_pos hx).1
     exact ef_ge' (by omega) (hf x)
    ·have:=(term_pos hx).1
     exact ef_ge' (by omega) (hf x)
   have s8:∀ q now,CsE b m (Dm v v') (EF ⟨q,8,now⟩ (u++v) i k) (EF ⟨q,8,now⟩ (u++v') (i+b) (k+b)):=fun q now=>by
    rw [t8 hi hk,t8 hi' hk',c1,c2]
    by_cases hc:hd U=44
    ·rw [if_pos hc,if_pos hc]
     by_cases hq:q.length<256
     ·rw [if_pos hq,if_pos hq]
      have:=nx (k+1) q 0 now (by omega) (by omega) (by decide)
      rw [show k+1+b=k+b+1 by omega] at this
      exact this
     ·rw [if_neg hq,if_neg hq];exact cse_bad
    ·rw [if_neg hc,if_neg hc];exact .inl ⟨h1,rfl⟩
   have s6:∀ q now,CsE b m (Dm v v') (EF ⟨q,6,now⟩ (u++v) i k) (EF ⟨q,6,now⟩ (u++v') (i+b) (k+b)):=fun q now=>by
    rw [t6 hi hk,t6 hi' hk',c1,c2]
    by_cases hc:hd U=33
    ·rw [if_pos hc,if_pos hc]
     by_cases h2:k+1=m
     ·-- the second byte is the first behind the end
      have g1:dr (u++v) i (k+1)=v:=by
       unfold dr;rw [drop_app (by omega),List.drop_eq_nil_of_le (by omega),List.nil_append]
      have g2:dr (u++v') (i+b) (k+b+1)=v':=by
       unfold dr;rw [show k+b+1-(i+b)=k+1-i by omega,drop_app (by omega),List.drop_eq_nil_of_le (by omega),List.nil_append]
      rw [g1,g2]
      refine .inr ⟨?_,?_,fun hD he=>.inl ?_⟩
      ·split
       ·exact Nat.le_trans (by omega) (ef_ge' (j:=k+2) (by omega) (by decide))
       ·show m≤k+1;omega
      ·split
       ·exact Nat.le_trans (by omega) (ef_ge' (j:=k+b+2) (by omega) (by decide))
       ·show m+b≤k+b+1;omega
      ·obtain ⟨x1,x2⟩:=hD
       refine ⟨k+1,k+b+1,?_,?_⟩
       ·cases v with
        | nil=>cases x1
        | cons c w=>injection x1 with x1;subst x1;rw [if_neg (by show ¬ (63:Nat)=61;decide)]
       ·rw [x2,if_neg (by show ¬ (10:Nat)=61;decide)]
     ·have g1:dr (u++v) i (k+1)=u.drop (k+1-i)++v:=drop_app (by omega)
      have g2:dr (u++v') (i+b) (k+b+1)=u.drop (k+1-i)++v':=by
       unfold dr;rw [show k+b+1-(i+b)=k+1-i by omega];exact drop_app (by omega)
      have gn:u.drop (k+1-i)≠[]:=fun e=>by
       have:=congrArg List.length e
       rw [List.length_drop] at this
       simp only [List.length_nil] at this
       omega
      rw [g1,g2,hd_app gn,hd_app gn]
      by_cases h61:hd (u.drop (k+1-i))=61
      ·rw [if_pos h61,if_pos h61]
       have:=nx (k+2) q 7 now (by omega) (by omega) (by decide)
       rw [show k+2+b=k+b+2 by omega] at this
       exact this
      ·rw [if_neg h61,if_neg h61]
       rw [show k+b+1=k+1+b by omega]
       exact cse_bad
    ·rw [if_neg hc,if_neg hc];exact cse_bad
   have n1:∀ (q:List Qlit) (a:Nat) (now:Qlit),a≤8→CsE b m (Dm v v') (EF ⟨q,a,now⟩ (u++v) i (k+1)) (EF ⟨q,a,now⟩ (u++v') (i+b) (k+b+1)):=fun q a now ha=>by
    have:=nx (k+1) q a now (by omega) (by omega) ha
    rw [show k+1+b=k+b+1 by omega] at this
    exact this
   rcases at_cases ha with rfl | rfl | rfl | rfl | rfl | rfl | rfl | rfl | rfl
   ·rw [t0 hi hk,t0 hi' hk',c1,c2]
    by_cases hs:Sm (hd U)
    ·rw [if_neg (not_not_intro hs),if_neg (not_not_intro hs)]
     have hc:=run_cs (b:=b) U v v' k
     rw [← hU,← hU',hlen] at hc
     refine cse_th hc (fun s j hx hj=>?_) (fun s j hx=>?_) (fun s j hx=>?_)
     ·have hj':=run_pos (.inl (by rw [c1];exact hs)) hx
      by_cases a1:s.toList=NOT.toList
      ·rw [if_pos a1,if_pos a1];exact nx j _ _ _ hj' hj (by decide)
      rw [if_neg a1,if_neg a1]
      by_cases a2:Rsv s
      ·rw [if_pos a2,if_pos a2];exact cse_bad
      ·rw [if_neg a2,if_neg a2];exact nx j _ _ _ hj' hj (by decide)
     ·have hj':=run_pos (.inl (by rw [c1];exact hs)) hx
      split
      ·exact ef_ge' (by omega) (by decide)
      split
      ·exact Nat.le_refl _
      ·exact ef_ge' (by omega) (by decide)
     ·have hj':=run_pos (.inl (by rw [c2];exact hs)) hx
      split
      ·exact ef_ge' (by omega) (by decide)
      split
      ·exact Nat.le_refl _
      ·exact ef_ge' (by omega) (by decide)
    ·rw [if_pos hs,if_pos hs]
     exact tm (fun x=>⟨q,6,⟨3,ByteArray.empty,[],x,Tm0⟩⟩) fun _=>(by decide:6≤8)
   ·rw [t1 hi hk,t1 hi' hk']
    have hc:=name_cs (b:=b) hne v v' k
    rw [← hU,← hU',hlen] at hc
    refine cse_th hc (fun s j hx hj=>?_) (fun s j hx=>?_) (fun s j hx=>?_)
    ·exact nx j _ _ _ (name_pos hx).1 hj (by decide)
    ·have:=(name_pos hx).1
     exact ef_ge' (by omega) (by decide)
    ·have:=(name_pos hx).1
     exact ef_ge' (by omega) (by decide)
   ·rw [t2 hi hk,t2 hi' hk',c1,c2]
    by_cases h33:hd U=33
    ·rw [if_pos h33,if_pos h33];exact s6 _ _
    rw [if_neg h33,if_neg h33]
    by_cases h40:hd U=40
    ·rw [if_pos h40,if_pos h40];exact n1 _ _ _ (by decide)
    ·rw [if_neg h40,if_neg h40];exact s8 _ _
   ·rw [t3 hi hk,t3 hi' hk',c1,c2]
    by_cases h40:hd U=40
    ·rw [if_pos h40,if_pos h40];exact n1 _ _ _ (by decide)
    ·rw [if_neg h40,if_neg h40];exact s8 _ _
   ·rw [t4 hi hk,t4 hi' hk']
    exact tm (fun x=>⟨q,5,{ now with args:=now.args++[x] }⟩) fun _=>(by decide:5≤8)
   ·rw [t5 hi hk,t5 hi' hk',c1,c2]
    by_cases h44:hd U=44
    ·rw [if_pos h44,if_pos h44]
     by_cases hq:now.args.length<16
     ·rw [if_pos hq,if_pos hq];exact n1 _ _ _ (by decide)
     ·rw [if_neg hq,if_neg hq];exact cse_bad
    rw [if_neg h44,if_neg h44]
    by_cases h41:hd U=41
    ·rw [if_pos h41,if_pos h41];exact n1 _ _ _ (by decide)
    ·rw [if_neg h41,if_neg h41];exact cse_bad
   ·rw [ef_sk hi,hk,ef_sk hi',hk'];exact s6 _ _
   ·rw [t7 hi hk,t7 hi' hk']
    exact tm (fun x=>⟨q++[{ now with right:=x }],8,Qlit0⟩) fun _=>(by decide:8≤8)
   ·rw [ef_sk hi,hk,ef_sk hi',hk'];exact s8 _ _
  ·-- it stands behind it
   have p1:k≤(EF ⟨q,a,now⟩ (u++v) i i).pos:=by rw [ef_sk hi,hk];exact ef_ge' hik ha
   have p2:k'≤(EF ⟨q,a,now⟩ (u++v') (i+b) (i+b)).pos:=by rw [ef_sk hi',hk'];exact ef_ge' hik' ha
   refine .inr ⟨by omega,by omega,fun hD he=>?_⟩
   have hkm:k=m:=by omega
   have hk3:=h3 hD hkm
   obtain ⟨x1,x2⟩:=hD
   have g1:dr (u++v) i k=v:=by
    unfold dr;rw [drop_app (by omega),List.drop_eq_nil_of_le (by omega),List.nil_append]
   have g2:dr (u++v') (i+b) k'=[46]:=by
    unfold dr;rw [show k'-(i+b)=u.length+1 by omega,← List.drop_drop,drop_app (Nat.le_refl _),List.drop_length,List.nil_append,x2];rfl
   have g3:hd v=63:=by
    cases v with
    | nil=>cases x1
    | cons c w=>injection x1
   rw [ef_quiet hi hk ha (by rw [g1,g3];exact quiet_63),ef_quiet hi' hk' ha (by rw [g2];exact quiet_46),hkm,hk3]
   by_cases h8:(endsS ⟨q,a,now⟩).at_=8
   ·rw [if_pos h8,if_pos h8];exact .inr ⟨_,rfl,rfl⟩
   ·rw [if_neg h8,if_neg h8];exact .inl ⟨_,_,rfl,rfl⟩
end
end Go.QP
namespace Go.QP
open Go.Eng
section
variable {q:List Qlit} {a:Nat} {now:Qlit} {l:List Nat} {i j k:Nat}
theorem wordN_len (b:Bool):∀ (n:Nat) (l:List Nat),wordN b n l≤l.length:=wordN_le b
theorem run_le' (l:List Nat) (i:Nat):(runR l i).pos≤i+l.length:=by
 have:=wordN_len false 65 l
 unfold runR;split
 ·show i+64≤_;omega
 ·show i+wordN false 65 l≤_;omega
theorem digits_le' (l:List Nat) (i:Nat):(digitsR l i).pos≤i+l.length:=by
 have:=wordN_len true 65 l
 unfold digitsR;split
 ·show i+64≤_;omega
 split <;> (show i+wordN true 65 l≤_;omega)
theorem text_le' {l:List Nat} (i:Nat) (h:l≠[]):(textR l i).pos≤i+l.length:=by
 have h1:=quotedP_le l.tail.length l.tail [] (i+1) (Nat.le_refl _)
 have h2:l.tail.length+1=l.length:=by cases l with | nil=>exact absurd rfl h | cons c w=>rfl
 unfold textR;split <;> (show (quotedP l.tail [] (i+1)).2.1≤_;omega)
theorem th_le {α β:Type} {e:Rs α} {g:α→Nat→Rs β} {k:Nat} (h:e.pos≤k) (hg:∀ x p,e= .ok x p→(g x p).pos≤k):(e.th g).pos≤k:=by
 cases e with
 | bad p=>exact h
 | ok x p=>exact hg x p rfl
theorem ok_le {α:Type} {e:Rs α} {x:α} {p k:Nat} (h:e.pos≤k) (he:e= .ok x p):p≤k:=by rw [he] at h;exact h
theorem name_le' (l:List Nat) (i:Nat):(nameR l i).pos≤i+l.length:=by
 rw [name_th]
 split
 ·exact Nat.le_add_right _ _
 ·exact th_le (run_le' l i) fun x p he=>by split <;> exact ok_le (run_le' l i) he
theorem term_le' (l:List Nat) (i:Nat):(termR l i).pos≤i+l.length:=by
 rw [term_th]
 split
 ·exact th_le (run_le' l i) fun x p he=>ok_le (run_le' l i) he
 split
 ·exact th_le (digits_le' l i) fun x p he=>ok_le (digits_le' l i) he
 split
 ·rename_i h
  exact th_le (text_le' i (hd_lt h (by decide))) fun x p he=>ok_le (text_le' i (hd_lt h (by decide))) he
 ·exact th_le (name_le' l i) fun x p he=>ok_le (name_le' l i) he
theorem dr_end (h:i≤k) (h':k≤i+l.length):k+(dr l i k).length=i+l.length:=by rw [dr_len];omega
theorem ef_le:∀ (N:Nat) (l:List Nat) (i j:Nat) (q:List Qlit) (a:Nat) (now:Qlit),i≤j→j≤i+l.length→(dr l i j).length<N→a≤8→(EF ⟨q,a,now⟩ l i j).pos≤i+l.length
 | 0,_,_,_,_,_,_,_,_,h,_=>absurd h (Nat.not_lt_zero _)
 | N+1,l,i,j,q,a,now,h,hj0,hn,ha=>by
  have hj:j≤sk (dr l i j) j:=(sk_le _ _).1
  have hj':sk (dr l i j) j≤i+l.length:=by have h1:=(sk_le (dr l i j) j).2;rw [dr_end h hj0] at h1;exact h1
  generalize hk:sk (dr l i j) j=k at hj hj'
  have hend:=dr_end (l:=l) (show i≤k by omega) hj'
  have hpos:dr l i k≠[]→k+1≤i+l.length:=fun hl=>by
   have h5:0<(dr l i k).length:=List.length_pos_iff.2 hl
   omega
  have nx:∀ (k2:Nat) (q:List Qlit) (a:Nat) (now:Qlit),k<k2→k2≤i+l.length→a≤8→(EF ⟨q,a,now⟩ l i k2).pos≤i+l.length:=fun k2 q a now h2 hl ha=>by
   rw [dr_len] at hn
   exact ef_le N l i k2 q a now (by omega) hl (by rw [dr_len];omega) ha
  have s8:∀ q now,(EF ⟨q,8,now⟩ l i k).pos≤i+l.length:=fun q now=>by
   rw [t8 h hk]
   split
   ·rename_i hc
    split
    ·exact nx (k+1) q 0 now (by omega) (hpos (hd_lt hc (by decide))) (by decide)
    ·exact hj'
   ·exact hj'
  have s6:∀ q now,(EF ⟨q,6,now⟩ l i k).pos≤i+l.length:=fun q now=>by
   rw [t6 h hk]
   split
   ·rename_i hc
    have h1:=hpos (hd_lt hc (by decide))
    split
    ·rename_i h61
     have h2:dr l i (k+1)≠[]:=hd_lt h61 (by decide)
     have h3:0<(dr l i (k+1)).length:=List.length_pos_iff.2 h2
     rw [dr_len] at h3
     exact nx (k+2) q 7 now (by omega) (by omega) (by decide)
    ·exact h1
   ·exact hj'
  have tl:=term_le' (dr l i k) k
  have nl:=name_le' (dr l i k) k
  have rl:=run_le' (dr l i k) k
  rw [hend] at tl nl rl
  rcases at_cases ha with rfl | rfl | rfl | rfl | rfl | rfl | rfl | rfl | rfl
  ·rw [t0 h hk]
   by_cases hs:Sm (hd (dr l i k))
   ·rw [if_neg (not_not_intro hs)]
    refine th_le rl fun s p hr=>?_
    have h2:=run_pos (.inl hs) hr
    have h3:=ok_le rl hr
    split
    ·exact nx _ _ _ _ h2 h3 (by decide)
    split
    ·exact h3
    ·exact nx _ _ _ _ h2 h3 (by decide)
   ·rw [if_pos hs]
    exact th_le tl fun s p hr=>nx _ _ _ _ (term_pos hr).1 (ok_le tl hr) (by decide)
  ·rw [t1 h hk]
   exact th_le nl fun s p hr=>nx _ _ _ _ (name_pos hr).1 (ok_le nl hr) (by decide)
  ·rw [t2 h hk]
   split
   ·exact s6 _ _
   split
   ·rename_i hc
    exact nx (k+1) _ 4 _ (by omega) (hpos (hd_lt hc (by decide))) (by decide)
   ·exact s8 _ _
  ·rw [t3 h hk]
   split
   ·rename_i hc
    exact nx (k+1) _ 4 _ (by omega) (hpos (hd_lt hc (by decide))) (by decide)
   ·exact s8 _ _
  ·rw [t4 h hk]
   exact th_le tl fun s p hr=>nx _ _ _ _ (term_pos hr).1 (ok_le tl hr) (by decide)
  ·rw [t5 h hk]
   split
   ·rename_i hc
    split
    ·exact nx (k+1) _ 4 _ (by omega) (hpos (hd_lt hc (by decide))) (by decide)
    ·exact hj'
   split
   ·rename_i hc
    exact nx (k+1) _ 8 _ (by omega) (hpos (hd_lt hc (by decide))) (by decide)
   ·exact hj'
  ·rw [ef_sk h,hk];exact s6 _ _
  ·rw [t7 h hk]
   exact th_le tl fun s p hr=>nx _ _ _ _ (term_pos hr).1 (ok_le tl hr) (by decide)
  ·rw [ef_sk h,hk];exact s8 _ _
end
theorem rule_ef (l:List Nat) (i:Nat):ruleR l i=(EF RS0 l i i).th fun q j=>if hd (dr l i j)=46 then (if sk (dr l i (j+1)) (j+1)<i+l.length then .bad (sk (dr l i (j+1)) (j+1)) else .ok q (sk (dr l i (j+1)) (j+1))) else .bad j:=by
 unfold ruleR
 rw [body_all]
 cases EF RS0 l i i <;> rfl
/-- is it told? -/
def Rs.good {α:Type}:Rs α→Prop
 | .bad _=>False
 | .ok _ _=>True
instance {α:Type} (e:Rs α):Decidable e.good:=match e with | .bad _=>isFalse id | .ok _ _=>isTrue trivial
/-- the first dot that ends a body -/
def farS (l:List Nat):Nat→Nat→Nat
 | 0,i=>i
 | n+1,i=>if (ruleR (l.take (i+1)) 3).good∧hd (l.drop i)=46 then i else farS l n (i+1)
/-- how far the text goes -/
def farR (l:List Nat):Nat:=
 let f:=farS l l.length 0
 match ruleR (l.take f) 3 with
 | .bad n=>if n-3<f then n-3 else f
 | .ok _ _=>f
/-- the document's answer -/
def refP (l:List Nat):Option (List Qlit) × Nat:=
 let f:=farR l
 if f=l.length∨hd (l.drop f)≠63 then (none,f)
 else match ruleR (l.take f++[10,46]) 3 with
  | .bad _=>(none,f)
  | .ok q _=>
   let p:=blankP (l.drop (f+1)) false (f+1)
   if p<l.length then (none,p) else (some q,0)
section
variable {l:List Nat}
theorem rule_off {u:List Nat} (h:u.length+3≤(EF RS0 u 3 3).pos):∃ n,ruleR u 3= .bad n∧u.length+3≤n:=by
 rw [rule_ef]
 cases he:EF RS0 u 3 3 with
 | bad p=>rw [he] at h;exact ⟨p,rfl,h⟩
 | ok q j=>
  rw [he] at h
  have h:u.length+3≤j:=h
  have:dr u 3 j=[]:=List.drop_eq_nil_of_le (by omega)
  refine ⟨j,?_,h⟩
  show (if _ then _ else _)=_
  rw [this,if_neg (by decide)]
theorem ef_pre (m:Nat) (h:m≤l.length):((EF RS0 l 0 0).pos<m∧EF RS0 (l.take m) 3 3=(EF RS0 l 0 0).sh 3)∨(m≤(EF RS0 l 0 0).pos∧∃ n,ruleR (l.take m) 3= .bad n∧m+3≤n):=by
 have hc:=ef_cs (b:=3) (l.drop m) [] ((l.take m).length+1) (l.take m) 0 [] 0 Qlit0 (Nat.lt_succ_self _) (by decide)
 rw [List.take_append_drop,List.append_nil,List.length_take,show 0+min m l.length=m by omega] at hc
 rcases hc with h1 | ⟨h1,h2,_⟩
 ·exact .inl h1
 ·refine .inr ⟨h1,?_⟩
  have:=rule_off (u:=l.take m) (by rw [List.length_take,show min m l.length=m by omega];exact h2)
  rwa [List.length_take,show min m l.length=m by omega] at this
/-- nothing is accepted -/
theorem far_none (h:∀ k,k<l.length→¬ ((ruleR (l.take (k+1)) 3).good∧hd (l.drop k)=46)):∀ (n i:Nat),i+n=l.length→farS l n i=l.length
 | 0,i,hi=>by rw [farS];omega
 | n+1,i,hi=>by
  rw [farS,if_neg (h i (by omega))]
  exact far_none h n (i+1) (by omega)
/-- the first that is accepted -/
theorem far_some {p:Nat} (hp:p<l.length) (h:∀ k,k<p→¬ ((ruleR (l.take (k+1)) 3).good∧hd (l.drop k)=46)) (h':(ruleR (l.take (p+1)) 3).good∧hd (l.drop p)=46):∀ (n i:Nat),i+n=l.length→i≤p→farS l n i=p
 | 0,i,hi,hle=>by omega
 | n+1,i,hi,hle=>by
  rw [farS]
  by_cases hip:i=p
  ·rw [hip,if_pos h']
  ·rw [if_neg (h i (by omega))]
   exact far_some hp h h' n (i+1) (by omega) (by omega)
theorem take_drop_hd {m p:Nat} (h:p<m):hd ((l.take m).drop p)=hd (l.drop p):=by
 unfold hd
 rw [List.headD_eq_head?_getD,List.headD_eq_head?_getD,List.head?_drop,List.head?_drop,List.getElem?_take_of_lt h]
theorem ef_top:(EF RS0 l 0 0).pos≤l.length:=by
 have:=ef_le ((dr l 0 0).length+1) l 0 0 [] 0 Qlit0 (Nat.le_refl _) (Nat.zero_le _) (Nat.lt_succ_self _) (by decide)
 rwa [Nat.zero_add] at this
/-- the mark as an end -/
theorem ef_mark {p:Nat} (hp:p<l.length) (h63:hd (l.drop p)=63) (he:(EF RS0 l 0 0).pos=p):(∃ p p',EF RS0 l 0 0= .bad p∧EF RS0 (l.take p++[10,46]) 3 3= .bad p')∨(∃ x,EF RS0 l 0 0= .ok x p∧EF RS0 (l.take p++[10,46]) 3 3= .ok x (p+3+1))∨(∃ q,EF RS0 l 0 0= .bad q∧∃ q',EF RS0 (l.take p++[10,46]) 3 3= .bad q'):=by
 have hc:=ef_cs (b:=3) (l.drop p) [10,46] ((l.take p).length+1) (l.take p) 0 [] 0 Qlit0 (Nat.lt_succ_self _) (by decide)
 rw [List.take_append_drop,List.length_take,show 0+min p l.length=p by omega] at hc
 have hD:Dm (l.drop p) [10,46]:=by
  refine ⟨?_,rfl⟩
  cases hq:l.drop p with
  | nil=>rw [hq] at h63;cases h63
  | cons c w=>rw [hq] at h63;have h63:c=63:=h63;rw [h63];rfl
 rcases hc with ⟨h1,_⟩ | ⟨_,_,h3⟩
 ·have h1:(EF RS0 l 0 0).pos<p:=h1
  omega
 ·rcases h3 hD he with ⟨a,a',e1,e2⟩ | h4
  ·exact .inr (.inr ⟨a,e1,a',e2⟩)
  ·exact .inr (.inl h4)
end
theorem far_bad {l:List Nat} {p:Nat} (he:(EF RS0 l 0 0).pos=p) (hf:farS l l.length 0=l.length) (hb:p<l.length→ruleR l 3= .bad (p+3)):farR l=p:=by
 have hle:p≤l.length:=by rw [← he];exact ef_top
 unfold farR
 simp only
 rw [hf,List.take_length]
 by_cases hp:p<l.length
 ·rw [hb hp]
  show (if _ then _ else _)=_
  rw [Nat.add_sub_cancel,if_pos hp]
 ·have hpl:p=l.length:=by omega
  rcases ef_pre (l:=l) l.length (Nat.le_refl _) with ⟨h1,_⟩ | ⟨_,n,h2,h3⟩
  ·omega
  ·rw [List.take_length] at h2
   rw [h2]
   show (if _ then _ else _)=_
   rw [if_neg (by omega),hpl]
/-- the document's answer is the program's -/
theorem ref_fin (t:ByteArray):refP (bl t)=finR t (EF RS0 (bl t) 0 0):=by
 have htop:(EF RS0 (bl t) 0 0).pos≤(bl t).length:=ef_top
 have hsz:(bl t).length=t.size:=bl_len t
 generalize he:EF RS0 (bl t) 0 0=e at htop
 cases e with
 | bad p=>
  have htop:p≤(bl t).length:=htop
  have hpos:(EF RS0 (bl t) 0 0).pos=p:=by rw [he];rfl
  have hfar:farR (bl t)=p:=by
   refine far_bad hpos (far_none (fun k hk hg=>?_) _ 0 (Nat.zero_add _)) fun hp=>?_
   ·rcases ef_pre (l:=bl t) (k+1) hk with ⟨h1,h2⟩ | ⟨_,n,h2,_⟩
    ·have h3:=hg.1
     rw [rule_ef,h2,he] at h3
     exact h3
    ·have h3:=hg.1
     rw [h2] at h3
     exact h3
   ·rcases ef_pre (l:=bl t) (bl t).length (Nat.le_refl _) with ⟨h1,h2⟩ | ⟨h1,_⟩
    ·rw [List.take_length] at h2
     rw [rule_ef,h2,he]
     rfl
    ·omega
  unfold refP
  simp only
  rw [hfar]
  show _=(none,p)
  by_cases h:p=(bl t).length∨hd ((bl t).drop p)≠63
  ·rw [if_pos h]
  ·rw [if_neg h]
   have h63:hd ((bl t).drop p)=63:=by
    by_cases h6:hd ((bl t).drop p)=63
    ·exact h6
    ·exact absurd (.inr h6) h
   have hlt:p<(bl t).length:=by
    by_cases h7:p=(bl t).length
    ·exact absurd (.inl h7) h
    ·omega
   have hr:∃ n,ruleR ((bl t).take p++[10,46]) 3= .bad n:=by
    rw [rule_ef]
    rcases ef_mark hlt h63 hpos with ⟨a,a',_,e2⟩ | ⟨x,e1,_⟩ | ⟨a,_,a',e2⟩
    ·rename_i p';clear p'
     rcases ef_mark hlt h63 hpos with ⟨a,a',e1,e2⟩ | ⟨x,e1,_⟩ | ⟨a,_,a',e2⟩
     ·rw [he] at e1
      injection e1 with e1;subst e1
      exact ⟨_,by rw [e2]⟩
     ·rw [he] at e1;cases e1
     ·exact ⟨_,by rw [e2]⟩
    ·rw [he] at e1;cases e1
    ·exact ⟨_,by rw [e2]⟩
   obtain ⟨n,hr⟩:=hr
   rw [hr]
 | ok q p=>
  have htop:p≤(bl t).length:=htop
  have hpos:(EF RS0 (bl t) 0 0).pos=p:=by rw [he];rfl
  have pre:∀ m,p<m→m≤(bl t).length→EF RS0 ((bl t).take m) 3 3= .ok q (p+3):=fun m h1 h2=>by
   rcases ef_pre (l:=bl t) m h2 with ⟨_,h3⟩ | ⟨h3,_⟩
   ·rw [h3,he];rfl
   ·omega
  have low:∀ m,m≤p→∃ n,ruleR ((bl t).take m) 3= .bad n∧m+3≤n:=fun m h1=>by
   rcases ef_pre (l:=bl t) m (by omega) with ⟨h3,_⟩ | ⟨_,h3⟩
   ·omega
   ·exact h3
  have dr3:∀ (u:List Nat) (k:Nat),dr u 3 (k+3)=u.drop k:=fun u k=>by unfold dr;rw [Nat.add_sub_cancel]
  by_cases h46:p<(bl t).length∧hd ((bl t).drop p)=46
  ·-- a dot: no question has it
   obtain ⟨hlt,h46⟩:=h46
   have hf:farS (bl t) (bl t).length 0=p:=by
    refine far_some hlt (fun k hk hg=>?_) ⟨?_,h46⟩ _ 0 (Nat.zero_add _) (Nat.zero_le _)
    ·obtain ⟨n,h2,_⟩:=low (k+1) hk
     have h3:=hg.1
     rw [h2] at h3
     exact h3
    ·rw [rule_ef,pre (p+1) (Nat.lt_succ_self _) hlt]
     show (if _ then _ else _:Rs _).good
     have hl:((bl t).take (p+1)).length=p+1:=by rw [List.length_take];omega
     rw [dr3,take_drop_hd (Nat.lt_succ_self _),if_pos h46,show p+3+1=p+1+3 by omega,dr3,List.drop_eq_nil_of_le (by omega)]
     rw [if_neg (by show ¬ p+1+3<_;omega)]
     trivial
   have hfar:farR (bl t)=p:=by
    unfold farR
    simp only
    rw [hf]
    obtain ⟨n,h2,h3⟩:=low p (Nat.le_refl _)
    rw [h2]
    show (if _ then _ else _)=_
    rw [if_neg (by omega)]
   unfold refP
   simp only
   rw [hfar,if_pos (.inr (by omega))]
   show _=if _ then _ else _
   rw [if_pos (by omega)]
  ·have hfar:farR (bl t)=p:=by
    have hno:∀ m,p<m→m≤(bl t).length→ruleR ((bl t).take m) 3= .bad (p+3):=fun m h1 h2=>by
     rw [rule_ef,pre m h1 h2]
     show (if _ then _ else _:Rs _)=_
     rw [dr3,take_drop_hd h1,if_neg (fun h=>h46 ⟨by omega,h⟩)]
    refine far_bad hpos (far_none (fun k hk hg=>?_) _ 0 (Nat.zero_add _)) fun hp=>?_
    ·have h3:=hg.1
     by_cases hpk:p<k+1
     ·rw [hno (k+1) hpk hk] at h3;exact h3
     ·obtain ⟨n,h2,_⟩:=low (k+1) (by omega)
      rw [h2] at h3;exact h3
    ·have:=hno (bl t).length hp (Nat.le_refl _)
     rwa [List.take_length] at this
   unfold refP
   simp only
   rw [hfar]
   show _=if hd ((bl t).drop p)≠63 then (none,p) else if blankP ((bl t).drop (p+1)) false (p+1)<t.size then (none,blankP ((bl t).drop (p+1)) false (p+1)) else (some q,0)
   by_cases h63:hd ((bl t).drop p)≠63
   ·rw [if_pos (.inr h63),if_pos h63]
   ·have h63':hd ((bl t).drop p)=63:=by
     by_cases h6:hd ((bl t).drop p)=63
     ·exact h6
     ·exact absurd h6 h63
    have hlt:p<(bl t).length:=by
     by_cases h7:p<(bl t).length
     ·exact h7
     ·rw [List.drop_eq_nil_of_le (by omega)] at h63';cases h63'
    rw [if_neg (by rintro (h | h);omega;exact h h63'),if_neg h63]
    have hr:ruleR ((bl t).take p++[10,46]) 3= .ok q (p+5):=by
     have hl:((bl t).take p).length=p:=by rw [List.length_take];omega
     rw [rule_ef]
     have hx:EF RS0 ((bl t).take p++[10,46]) 3 3= .ok q (p+3+1):=by
      rcases ef_mark hlt h63' hpos with ⟨a,a',e1,_⟩ | ⟨x,e1,e2⟩ | ⟨a,e1,_⟩
      ·rw [he] at e1;cases e1
      ·rw [he] at e1;injection e1 with e1;rw [e2,e1]
      ·rw [he] at e1;cases e1
     rw [hx]
     have d1:((bl t).take p++[10,46]).drop (p+1)=[46]:=by
      rw [show p+1=((bl t).take p).length+1 by omega,List.drop_append];simp
     have d2:((bl t).take p++[10,46]).drop (p+2)=[]:=List.drop_eq_nil_of_le (by rw [List.length_append,hl];simp)
     show (if _ then _ else _:Rs _)=_
     rw [show p+3+1=p+1+3 by omega,dr3,d1,if_pos (show hd [46]=46 from rfl),show p+1+3+1=p+2+3 by omega,dr3,d2,if_neg]
     ·show Rs.ok q (p+2+3)=_;congr 1
     ·show ¬ p+2+3<_;rw [List.length_append,hl,show ([10,46]:List Nat).length=2 from rfl];omega
    rw [hr,hsz]
theorem ref_parse (t:ByteArray):refP (bl t)=parseS t:=by rw [ref_fin,parse_ef]
end Go.QP
