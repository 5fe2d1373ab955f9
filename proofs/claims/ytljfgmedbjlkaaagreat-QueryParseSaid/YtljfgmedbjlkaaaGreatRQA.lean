/- The document's reader in memory, and what a step of it does. -/
import Derived.Test.YtljfgmedbjlkaaaGreatQG
import Derived.Test.YtljfgmedbjlkaaaGreatRPB
namespace Go.QP
open Go.Eng
/-- the byte at a place; 0 at the end -/
abbrev pk (t:ByteArray) (a:Nat):Nat:=hd ((bl t).drop a)
/-- blanks -/
def skR (t:ByteArray) (a:Nat):Rs Unit:=.ok () (sk ((bl t).drop a) a)
/-- a sign -/
def sgR (c:Nat) (t:ByteArray) (a:Nat):Rs Unit:=if pk t a=c then .ok () (a+1) else .bad a
/-- a step: from a place, and whether it has stopped for good, to a value, a place, and whether -/
def Stp {α:Type} (f:Rs α) (bd:Bool) (a:Nat) (x:α) (a':Nat) (bd':Bool):Prop:=(bd=true∧a'=a∧bd'=true)∨(bd=false∧bd'=true∧f= .bad a')∨(bd=false∧bd'=false∧f= .ok x a')
section
variable {α β:Type} {f:Rs α} {bd b1 b2:Bool} {a a1 a2:Nat} {x:α} {y:β}
theorem Stp.th {g:α→Nat→Rs β} (h:Stp f bd a x a1 b1) (h2:Stp (g x a1) b1 a1 y a2 b2):Stp (f.th g) bd a y a2 b2:=by
 rcases h with ⟨rfl,rfl,rfl⟩ | ⟨rfl,rfl,rfl⟩ | ⟨rfl,rfl,rfl⟩
 ·rcases h2 with ⟨_,rfl,rfl⟩ | ⟨h,_⟩ | ⟨h,_⟩
  ·exact .inl ⟨rfl,rfl,rfl⟩
  ·cases h
  ·cases h
 ·rcases h2 with ⟨_,rfl,rfl⟩ | ⟨h,_⟩ | ⟨h,_⟩
  ·exact .inr (.inl ⟨rfl,rfl,rfl⟩)
  ·cases h
  ·cases h
 ·rcases h2 with ⟨h,_⟩ | ⟨_,rfl,h⟩ | ⟨_,rfl,h⟩
  ·cases h
  ·exact .inr (.inl ⟨rfl,rfl,h⟩)
  ·exact .inr (.inr ⟨rfl,rfl,h⟩)
/-- it stands, and has a value -/
theorem Stp.ok:Stp (.ok x a:Rs α) bd a x a bd:=by
 cases bd
 ·exact .inr (.inr ⟨rfl,rfl,rfl⟩)
 ·exact .inl ⟨rfl,rfl,rfl⟩
theorem Stp.bad (h:f= .bad a):Stp f bd a x a true:=by
 cases bd
 ·exact .inr (.inl ⟨rfl,rfl,h⟩)
 ·exact .inl ⟨rfl,rfl,rfl⟩
theorem Stp.stops (h:¬ bd=true) (hf:f= .bad a1):Stp f bd a x a1 true:=by
 cases bd
 ·exact .inr (.inl ⟨rfl,rfl,hf⟩)
 ·exact absurd rfl h
theorem Stp.was (h:bd=true):Stp f bd a x a bd:=.inl ⟨h,rfl,h⟩
theorem Stp.goes (h:¬ bd=true) (hf:f= .ok x a1):Stp f bd a x a1 bd:=by
 cases bd
 ·exact .inr (.inr ⟨rfl,rfl,hf⟩)
 ·exact absurd rfl h
theorem Stp.eq {f':Rs α} (h:Stp f bd a x a1 b1) (e:f'=f):Stp f' bd a x a1 b1:=by rw [e];exact h
theorem Stp.off {a0:Nat} (h0:¬ bd=true) (h:Stp f bd a0 x a1 b1):Stp f bd a x a1 b1:=by
 rcases h with ⟨h,_⟩ | h | h
 ·exact absurd h h0
 ·exact .inr (.inl h)
 ·exact .inr (.inr h)
theorem Stp.re {a0:Nat} {bv:Bool} (h0:¬ bd=true) (h1:¬ bv=true) (h:Stp f bv a0 x a1 b1):Stp f bd a x a1 b1:=by
 have:bv=bd:=by cases bv;cases bd;rfl;exact absurd rfl h0;exact absurd rfl h1
 exact Stp.off h0 (this▸h)
/-- it has not stopped -/
theorem Stp.live (h:Stp f bd a x a1 b1) (h1:¬ b1=true):bd=false∧b1=false∧f= .ok x a1:=by
 rcases h with ⟨_,_,h⟩ | ⟨_,h,_⟩ | h
 ·exact absurd h h1
 ·exact absurd h h1
 ·exact h
end
/-- a blank -/
def Bk (c:Nat):Prop:=c=32∨c=9∨c=10∨c=13
instance (c:Nat):Decidable (Bk c):=inferInstanceAs (Decidable (_∨_))
section
variable {t:ByteArray} {a j k:Nat}
theorem dd (h:a≤j):dr ((bl t).drop a) a j=(bl t).drop j:=by unfold dr;rw [List.drop_drop];congr 1;omega
theorem sk_ge:a≤sk ((bl t).drop a) a:=(sk_le _ _).1
theorem unl_th (x:Tm):unlikeR x ((bl t).drop a) a=(skR t a).th fun _ a1=>(sgR 33 t a1).th fun _ a2=>(sgR 61 t a2).th fun _ a3=>(skR t a3).th fun _ a4=>(termR ((bl t).drop a4) a4).th fun y j=>.ok ⟨3,ByteArray.empty,[],x,y⟩ j:=by
 have h1:a≤sk ((bl t).drop a) a:=sk_ge
 unfold unlikeR skR sgR
 dsimp only [Rs.th]
 generalize sk ((bl t).drop a) a=k at h1 ⊢
 rw [dd h1,dd (show a≤k+1 by omega),dd (show a≤k+2 by omega)]
 by_cases h33:pk t k=33
 ·rw [if_neg (not_not_intro h33),if_pos h33]
  dsimp only
  by_cases h61:pk t (k+1)=61
  ·rw [if_neg (not_not_intro h61),if_pos h61]
   dsimp only
   have h2:k+2≤sk ((bl t).drop (k+2)) (k+2):=sk_ge
   rw [dd (show a≤sk ((bl t).drop (k+2)) (k+2) by omega),show k+1+1=k+2 from rfl]
   cases termR ((bl t).drop (sk ((bl t).drop (k+2)) (k+2))) (sk ((bl t).drop (k+2)) (k+2)) <;> rfl
  ·rw [if_pos h61,if_neg h61]
 ·rw [if_pos h33,if_neg h33]
theorem pk_off (h:¬ a<t.size):pk t a=0:=hd_off h
theorem pk_at (h:a<t.size):pk t a=ch t a:=hd_at h
section
variable {i:Nat} {bd:Bool} {R:Nat}
theorem sk_step (hq:sk ((bl t).drop i) i=R) (h:i<t.size) (hb:Bk (pk t i)):sk ((bl t).drop (i+1)) (i+1)=R:=by
 rw [pk_at h] at hb
 unfold Bk at hb
 rw [← hq,drop_ch h]
 show _=blankP _ _ _
 rw [blankP,if_neg (by omega),if_neg (by omega)]
theorem sk_enter (h:i<t.size) (hc:pk t i=37):blankP ((bl t).drop i) true i=sk ((bl t).drop i) i:=by
 rw [pk_at h] at hc
 rw [drop_ch h,hc]
 rfl
theorem sk_on {p:Nat} (hq:blankP ((bl t).drop p) true p=R) (h:p<t.size) (hc:pk t p≠10):blankP ((bl t).drop (p+1)) true (p+1)=R:=by
 rw [pk_at h] at hc
 rw [drop_ch h,blankP,decide_eq_true hc] at hq
 exact hq
theorem sk_rem {p:Nat} (hq:blankP ((bl t).drop p) true p=R) (h:p<t.size→pk t p=10):sk ((bl t).drop p) p=R:=by
 by_cases hp:p<t.size
 ·have hc:=h hp
  rw [pk_at hp] at hc
  rw [← hq,drop_ch hp,hc]
  rfl
 ·rw [← hq,drop_end hp];rfl
theorem sk_was (hbt:bd=true→i=a) (h:bd=true):Stp (skR t a) bd a () i bd:=by rw [hbt h];exact Stp.was h
theorem sk_end (hq:sk ((bl t).drop i) i=sk ((bl t).drop a) a) (hb:¬ bd=true) (h:¬ i<t.size):Stp (skR t a) bd a () i bd:=by
 refine Stp.goes hb ?_
 rw [skR,← hq,drop_end h];rfl
theorem sk_here (hq:sk ((bl t).drop i) i=sk ((bl t).drop a) a) (hb:¬ bd=true) (h:i<t.size) (h1:¬ Bk (pk t i)) (h2:¬ pk t i=37):Stp (skR t a) bd a () i bd:=by
 refine Stp.goes hb ?_
 rw [pk_at h] at h1 h2
 unfold Bk at h1
 rw [skR,← hq,drop_ch h]
 show Rs.ok () (blankP _ _ _)=_
 rw [blankP,if_neg h2,if_pos (by omega)]
end
/-- an atom -/
def atomA (t:ByteArray) (a:Nat):Rs (ByteArray × List Tm):=(nameR ((bl t).drop a) a).th fun s j=>(argsR ((bl t).drop j) j).th fun xs j'=>.ok (s,xs) j'
theorem atom_th (k:Int):atomR k ((bl t).drop a) a=(atomA t a).th fun x j=>.ok ⟨k,x.1,x.2,Tm0,Tm0⟩ j:=by
 unfold atomR atomA
 cases h:nameR ((bl t).drop a) a with
 | bad p=>rfl
 | ok s j=>
  have h1:=name_ge h
  dsimp only [Rs.th]
  rw [dd h1]
  cases argsR ((bl t).drop j) j <;> rfl
theorem lit_term (h:¬ Sm (pk t a)):litR ((bl t).drop a) a=(termR ((bl t).drop a) a).th fun x j=>unlikeR x ((bl t).drop j) j:=by
 unfold litR
 rw [if_pos h]
 cases ht:termR ((bl t).drop a) a with
 | bad p=>rfl
 | ok x j=>
  simp only
  rw [dd (term_ge ht)]
theorem lit_word (h:Sm (pk t a)):litR ((bl t).drop a) a=(runR ((bl t).drop a) a).th fun s j=>if s.toList=NOT.toList then (skR t j).th fun _ i1=>if i1=j∧Wordly ((bl t).drop i1) then .bad i1 else atomR 2 ((bl t).drop i1) i1 else if Rsv s then .bad j else (skR t j).th fun _ i1=>if pk t i1=33 then unlikeR (false,s) ((bl t).drop i1) i1 else (argsR ((bl t).drop i1) i1).th fun xs j'=>.ok ⟨1,s,xs,Tm0,Tm0⟩ j':=by
 unfold litR
 rw [if_neg (not_not_intro h)]
 cases hr:runR ((bl t).drop a) a with
 | bad p=>rfl
 | ok s j=>
  have h1:=run_ge hr
  have h2:j≤sk ((bl t).drop j) j:=sk_ge
  unfold skR
  dsimp only [Rs.th]
  rw [dd h1,dd (show a≤sk ((bl t).drop j) j by omega)]
  split
  ·rfl
  split
  ·rfl
  ·split
   ·rfl
   ·cases argsR ((bl t).drop (sk ((bl t).drop j) j)) (sk ((bl t).drop j) j) <;> rfl
/-- what stands behind a head, up to the dot -/
def bodyA (t:ByteArray) (a:Nat):Rs (List Qlit):=(skR t a).th fun _ a1=>(if pk t a1=58 then (sgR 45 t (a1+1)).th fun _ a2=>bodyL (((bl t).drop a2).length+1) [] ((bl t).drop a2) a2 else .ok [] a1).th fun q a3=>(sgR 46 t a3).th fun _ a4=>.ok q a4
/-- a rule -/
def ruleA (t:ByteArray):Rs ((ByteArray × List Tm) × List Qlit):=(skR t 0).th fun _ a1=>(atomA t a1).th fun x a2=>(bodyA t a2).th fun q a3=>(skR t a3).th fun _ a4=>if a4<t.size then .bad a4 else .ok (x,q) a4
end
end Go.QP
namespace Go.Proofs.YtljfgmedbjlkaaaGreat
open Go.RowKit Go.Eng Go.QP
abbrev RdC (bb:Nat) (t:ByteArray) (a:Nat) (bd:Bool):Ch:=cB bb 130 [.string t,.int .i64 ((a:Nat):Int),.bool (decide (bd=true))]
end Go.Proofs.YtljfgmedbjlkaaaGreat
namespace Go.QP
open Go.Eng
section
variable {t:ByteArray} {a i:Nat} {num:Bool}
/-- how far a word has been read -/
def WI (t:ByteArray) (a:Nat) (num:Bool) (i:Nat):Prop:=a≤i∧i≤t.size∧i≤a+64∧wordN num 65 ((bl t).drop a)=i-a+wordN num (65-(i-a)) ((bl t).drop i)
theorem WI.start (h:a≤t.size):WI t a num a:=⟨Nat.le_refl _,h,by omega,by rw [Nat.sub_self,Nat.zero_add]⟩
theorem WI.on (h:WI t a num i) (h1:i<t.size) (h3:Go.QP.Lt (pk t i)) (h4:num=true→pk t i≤57):wordN num 65 ((bl t).drop a)=i+1-a+wordN num (65-(i+1-a)) ((bl t).drop (i+1)):=by
 obtain ⟨a1,b,c,d⟩:=h
 rw [pk_at h1] at h3 h4
 rw [d,drop_ch h1,show 65-(i-a)=(65-(i+1-a))+1 by omega,wordN,if_pos ⟨h3,h4⟩]
 omega
theorem WI.step (h:WI t a num i) (h1:i<t.size) (h2:i≠a+64) (h3:Go.QP.Lt (pk t i)) (h4:num=true→pk t i≤57):WI t a num (i+1):=⟨by have:=h.1;omega,h1,by have:=h.2.2.1;omega,h.on h1 h3 h4⟩
theorem WI.full (h:WI t a num i) (h1:i<t.size) (h2:i=a+64) (h3:Go.QP.Lt (pk t i)) (h4:num=true→pk t i≤57):wordN num 65 ((bl t).drop a)=65:=by
 have h5:=wordN_n num 65 ((bl t).drop a)
 have h6:=h.on h1 h3 h4
 omega
theorem WI.fin (h:WI t a num i) (he:¬ i<t.size∨¬ (Go.QP.Lt (pk t i)∧(num=true→pk t i≤57))):wordN num 65 ((bl t).drop a)=i-a:=by
 obtain ⟨a1,b,c,d⟩:=h
 rw [d]
 have:wordN num (65-(i-a)) ((bl t).drop i)=0:=by
  by_cases h1:i<t.size
  ·rcases he with he | he
   ·exact absurd h1 he
   ·rw [pk_at h1] at he
    rw [drop_ch h1]
    cases 65-(i-a) with
    | zero=>rfl
    | succ n=>rw [wordN,if_neg he]
  ·rw [drop_end h1];cases 65-(i-a) <;> rfl
 omega
theorem take_text:sN (((bl t).drop a).take (i-a))=t.extract a i:=by rw [← bl_extract,sN_bl]
theorem run_full (h:WI t a false i) (h1:i<t.size) (h2:i=a+64) (h3:Go.QP.Lt (pk t i)):runR ((bl t).drop a) a= .bad i:=by
 unfold runR
 rw [if_pos (h.full h1 h2 h3 (fun h=>by cases h)),h2]
theorem run_fin (h:WI t a false i) (he:¬ i<t.size∨¬ Go.QP.Lt (pk t i)):runR ((bl t).drop a) a= .ok (t.extract a i) i:=by
 have h5:=h.fin (he.imp_right fun h h'=>h h'.1)
 have h6:=h.1
 have h7:=h.2.2.1
 unfold runR
 rw [h5,if_neg (by omega),take_text,show a+(i-a)=i by omega]
theorem dg_lt {c:Nat}:Dg c↔Go.QP.Lt c∧(true=true→c≤57):=
 ⟨fun h=>⟨.inr (.inr (.inl h)),fun _=>h.2⟩,fun ⟨h,h'⟩=>by
  have:=h' rfl
  unfold Go.QP.Lt at h
  show 48≤c∧c≤57
  omega⟩
theorem digits_full (h:WI t a true i) (h1:i<t.size) (h2:i=a+64) (h3:Dg (pk t i)):digitsR ((bl t).drop a) a= .bad i:=by
 unfold digitsR
 rw [if_pos (h.full h1 h2 (dg_lt.1 h3).1 (dg_lt.1 h3).2),h2]
theorem digits_fin (h:WI t a true i) (he:¬ i<t.size∨¬ Dg (pk t i)):digitsR ((bl t).drop a) a=if Wordly ((bl t).drop i) then .bad i else .ok (t.extract a i) i:=by
 have h5:=h.fin (he.imp_right fun h h'=>h (dg_lt.2 h'))
 have h6:=h.1
 have h7:=h.2.2.1
 unfold digitsR
 rw [h5,if_neg (by omega),take_text,show a+(i-a)=i by omega,List.drop_drop,show a+(i-a)=i by omega]
end
end Go.QP
namespace Go.QP
open Go.Eng
section
variable {t:ByteArray} {a i:Nat}
theorem name_small (h:Sm (pk t a)):nameR ((bl t).drop a) a=(runR ((bl t).drop a) a).th fun s j=>if Rsv s then .bad j else .ok s j:=by
 rw [name_th,if_neg (not_not_intro h)]
theorem name_bad (h:¬ Sm (pk t a)):nameR ((bl t).drop a) a= .bad a:=by rw [name_th,if_pos h]
/-- a digit of two -/
def hexR (t:ByteArray) (a:Nat):Rs Nat:=if hx (pk t a)<0 then .bad a else .ok (hx (pk t a)).toNat (a+1)
theorem hex_dg (h:Dg (pk t a)):hexR t a= .ok (pk t a-48) (a+1):=by
 have h':48≤pk t a∧pk t a≤57:=h
 unfold hexR hx
 rw [if_pos h,if_neg (by omega)]
 congr 1;omega
theorem hex_af (h:¬ Dg (pk t a)) (h1:97≤pk t a) (h2:pk t a≤102):hexR t a= .ok (pk t a-87) (a+1):=by
 unfold hexR hx
 rw [if_neg h,if_pos (show 97≤pk t a∧pk t a≤102 from ⟨h1,h2⟩),if_neg (by omega)]
 congr 1;omega
/-- a piece of a string, of which n bytes are there -/
def pieceR (n:Nat) (t:ByteArray) (a:Nat):Rs Nat:=
 if n=1024∨pk t a<32∨126<pk t a then .bad a
 else if pk t a≠92 then .ok (pk t a) (a+1)
 else if pk t (a+1)≠34∧pk t (a+1)≠92∧pk t (a+1)≠110∧pk t (a+1)≠116∧pk t (a+1)≠120 then .bad (a+1)
 else if pk t (a+1)=110 then .ok 10 (a+2)
 else if pk t (a+1)=116 then .ok 9 (a+2)
 else if pk t (a+1)=120 then (hexR t (a+2)).th fun h j=>(hexR t j).th fun k j'=>.ok (16 * h+k) j'
 else .ok (pk t (a+1)) (a+2)
theorem pk_size {c:Nat} (h:pk t a=c) (hc:c≠0):a<t.size:=by
 by_cases ha:a<t.size
 ·exact ha
 ·rw [pk_off ha] at h;exact absurd h.symm hc
theorem hx_zero:hx 0<0:=by decide
theorem first_hex {b:List Nat}:firstP ((bl t).drop a) b a=match (hexR t a).th fun h j=>(hexR t j).th fun k j'=>.ok (16 * h+k) j' with | .bad p=>([],p,false) | .ok x j=>quotedP ((bl t).drop j) (b++[x]) j:=by
 by_cases ha:a<t.size
 ·rw [drop_ch ha]
  by_cases h1:hx (ch t a)<0
  ·rw [firstP_n h1]
   have e:hexR t a= .bad a:=by unfold hexR;rw [pk_at ha,if_pos h1]
   rw [e]
  ·have e:hexR t a= .ok (hx (ch t a)).toNat (a+1):=by unfold hexR;rw [pk_at ha,if_neg h1]
   rw [e]
   dsimp only [Rs.th]
   by_cases hb:a+1<t.size
   ·rw [drop_ch hb,firstP_2,if_neg h1]
    by_cases h2:hx (ch t (a+1))<0
    ·have e2:hexR t (a+1)= .bad (a+1):=by unfold hexR;rw [pk_at hb,if_pos h2]
     rw [if_pos h2,e2]
    ·have e2:hexR t (a+1)= .ok (hx (ch t (a+1))).toNat (a+1+1):=by unfold hexR;rw [pk_at hb,if_neg h2]
     rw [if_neg h2,e2]
     dsimp only
     congr 2
     have h3:=hx_lt (ch t a)
     have h4:=hx_lt (ch t (a+1))
     congr 1
     omega
   ·have e2:hexR t (a+1)= .bad (a+1):=by unfold hexR;rw [pk_off hb,if_pos hx_zero]
    rw [drop_end hb,firstP_1,if_neg h1,e2]
 ·have e:hexR t a= .bad a:=by unfold hexR;rw [pk_off ha,if_pos hx_zero]
  rw [drop_end ha,e]
  rfl
theorem quoted_piece {b:List Nat} (h:pk t a≠34):quotedP ((bl t).drop a) b a=match pieceR b.length t a with | .bad p=>([],p,false) | .ok x j=>quotedP ((bl t).drop j) (b++[x]) j:=by
 unfold pieceR
 by_cases ha:a<t.size
 ·rw [pk_at ha] at h ⊢
  rw [drop_ch ha,quotedP_cons,if_neg h]
  by_cases h1:b.length=1024∨ch t a<32∨126<ch t a
  ·rw [if_pos h1,if_pos h1]
  rw [if_neg h1,if_neg h1]
  by_cases h2:ch t a=92
  ·rw [if_pos h2,if_neg (not_not_intro h2)]
   by_cases hb:a+1<t.size
   ·rw [pk_at hb,drop_ch hb]
    unfold slashP
    dsimp only
    by_cases c1:ch t (a+1)=34∨ch t (a+1)=92
    ·rw [if_pos c1,if_neg (by omega),if_neg (by omega),if_neg (by omega),if_neg (by omega)]
    rw [if_neg c1]
    by_cases c2:ch t (a+1)=110
    ·rw [if_pos c2,if_neg (by omega),if_pos c2]
    rw [if_neg c2]
    by_cases c3:ch t (a+1)=116
    ·rw [if_pos c3,if_neg (by omega),if_neg c2,if_pos c3]
    rw [if_neg c3]
    by_cases c4:ch t (a+1)=120
    ·rw [if_pos c4,if_neg (by omega),if_neg c2,if_neg c3,if_pos c4]
     exact first_hex
    ·rw [if_neg c4,if_pos (by omega)]
   ·rw [pk_off hb,drop_end hb,if_pos (by decide)]
    rfl
  ·rw [if_neg h2,if_pos h2]
 ·rw [pk_off ha,drop_end ha,quotedP_nil,if_pos (by omega)]
/-- where the reading of a string stands -/
def TxI (t:ByteArray) (Q:List Nat × Nat × Bool) (i:Nat) (bd:Bool) (m:Nat) (xs:List Nat):Prop:=
 i≤t.size∧xs.length≤1025∧((bd=true∧Q=([],i,false))∨(bd=false∧m=t.size-i+1∧xs.length≤1024∧quotedP ((bl t).drop i) xs i=Q))
theorem hex_gt {x j:Nat} (h:hexR t a= .ok x j):a<j:=by
 unfold hexR at h
 split at h
 ·cases h
 ·injection h with _ h;omega
theorem piece_gt {n x j:Nat} (h:pieceR n t a= .ok x j):a<j:=by
 unfold pieceR at h
 split at h
 ·cases h
 split at h
 ·injection h with _ h;omega
 split at h
 ·cases h
 split at h
 ·injection h with _ h;omega
 split at h
 ·injection h with _ h;omega
 split at h
 ·cases h1:hexR t (a+2) with
  | bad p=>rw [h1] at h;cases h
  | ok x1 j1=>
   rw [h1] at h
   dsimp only [Rs.th] at h
   have h2:=hex_gt h1
   cases h3:hexR t j1 with
   | bad p=>rw [h3] at h;cases h
   | ok x2 j2=>
    rw [h3] at h
    have h4:=hex_gt h3
    injection h with _ h;omega
 ·injection h with _ h;omega
theorem TxI.step {Q:List Nat × Nat × Bool} {bd b2:Bool} {m x j:Nat} {xs:List Nat} (h:TxI t Q i bd m xs) (hb:¬ bd=true) (h34:pk t i≠34) (hs:Stp (pieceR xs.length t i) bd i x j b2) (hj:j≤t.size):TxI t Q j b2 (if b2=true then 0 else t.size-j+1) (xs++[x])∧(if b2=true then 0 else t.size-j+1)<m:=by
 obtain ⟨h1,h2,h3⟩:=h
 rcases h3 with ⟨h3,_⟩ | ⟨_,h4,h5,h6⟩
 ·exact absurd h3 hb
 have hl:(xs++[x]).length=xs.length+1:=by rw [List.length_append];rfl
 rw [quoted_piece h34] at h6
 rcases hs with ⟨h7,_⟩ | ⟨_,rfl,h7⟩ | ⟨_,rfl,h7⟩
 ·exact absurd h7 hb
 ·rw [h7] at h6
  rw [if_pos rfl]
  exact ⟨⟨hj,by omega,.inl ⟨rfl,h6.symm⟩⟩,by omega⟩
 ·have h8:=piece_gt h7
  rw [h7] at h6
  rw [if_neg (by decide)]
  refine ⟨⟨hj,by omega,.inr ⟨rfl,rfl,?_,h6⟩⟩,by omega⟩
  unfold pieceR at h7
  by_cases h9:xs.length=1024
  ·rw [if_pos (.inl h9)] at h7;cases h7
  ·omega
theorem text_at (h:pk t a=34):textR ((bl t).drop a) a=if (quotedP ((bl t).drop (a+1)) [] (a+1)).2.2=true then .ok (sN (quotedP ((bl t).drop (a+1)) [] (a+1)).1) (quotedP ((bl t).drop (a+1)) [] (a+1)).2.1 else .bad (quotedP ((bl t).drop (a+1)) [] (a+1)).2.1:=by
 have ha:=pk_size h (by decide)
 unfold textR
 rw [drop_ch ha]
 rfl
theorem TxI.bad {bd b2:Bool} {m:Nat} {xs:List Nat} {s:ByteArray} {j:Nat} (h:TxI t (quotedP ((bl t).drop (a+1)) [] (a+1)) i bd m xs) (hb:bd=true) {bd0:Bool} (h0:¬ bd0=true) (h34:pk t a=34) (hs:Stp (sgR 34 t i) bd i () j b2):Stp (textR ((bl t).drop a) a) bd0 a s j b2:=by
 rcases hs with ⟨_,rfl,rfl⟩ | ⟨h1,_⟩ | ⟨h1,_⟩
 ·obtain ⟨_,_,h3⟩:=h
  rcases h3 with ⟨_,h4⟩ | ⟨h4,_⟩
  ·refine Stp.stops h0 ?_
   rw [text_at h34,h4,if_neg (by show ¬ (false=true);decide)]
  ·rw [hb] at h4;cases h4
 ·rw [hb] at h1;cases h1
 ·rw [hb] at h1;cases h1
theorem TxI.fin {bd b2:Bool} {m:Nat} {xs:List Nat} {j:Nat} (h:TxI t (quotedP ((bl t).drop (a+1)) [] (a+1)) i bd m xs) (hb:¬ bd=true) {bd0:Bool} (h0:¬ bd0=true) (h34:pk t a=34) (hi:pk t i=34) (hs:Stp (sgR 34 t i) bd i () j b2):Stp (textR ((bl t).drop a) a) bd0 a (sN xs) j b2:=by
 obtain ⟨_,_,h3⟩:=h
 have hlt:=pk_size hi (by decide)
 have e:sgR 34 t i= .ok () (i+1):=by unfold sgR;rw [if_pos hi]
 rw [e] at hs
 rcases hs with ⟨h1,_⟩ | ⟨_,_,h1⟩ | ⟨_,h2,h1⟩
 ·exact absurd h1 hb
 ·cases h1
 ·injection h1 with _ h1
  subst h1
  rw [h2]
  have h2':b2=bd0:=by cases bd0;exact h2;exact absurd rfl h0
  rw [← h2,h2']
  refine Stp.goes h0 ?_
  rcases h3 with ⟨h4,_⟩ | ⟨_,_,_,h4⟩
  ·exact absurd h4 hb
  ·rw [pk_at hlt] at hi
   rw [drop_ch hlt,quotedP_cons,if_pos hi] at h4
   rw [text_at h34,← h4,if_pos rfl]
theorem TxI.start {b1 bd:Bool} {a1:Nat} (h34:pk t a=34) (hb:¬ bd=true) (hs:Stp (sgR 34 t a) bd a () a1 b1) (ha:a1≤t.size):TxI t (quotedP ((bl t).drop (a+1)) [] (a+1)) a1 b1 (t.size-a1+1) []:=by
 have e:sgR 34 t a= .ok () (a+1):=by unfold sgR;rw [if_pos h34]
 rw [e] at hs
 rcases hs with ⟨h1,_⟩ | ⟨_,_,h1⟩ | ⟨_,h2,h1⟩
 ·exact absurd h1 hb
 ·cases h1
 ·injection h1 with _ h1
  subst h1
  exact ⟨ha,Nat.zero_le _,.inr ⟨h2,rfl,Nat.zero_le _,rfl⟩⟩
theorem tm_gr (h:Gr (pk t a)):termR ((bl t).drop a) a=(runR ((bl t).drop a) a).th fun s j=>.ok (true,s) j:=by rw [term_th,if_pos h]
theorem tm_dg (h:¬ Gr (pk t a)) (h1:Dg (pk t a)):termR ((bl t).drop a) a=(digitsR ((bl t).drop a) a).th fun s j=>.ok (false,s) j:=by rw [term_th,if_neg h,if_pos h1]
theorem tm_tx (h:¬ Gr (pk t a)) (h1:¬ Dg (pk t a)) (h2:pk t a=34):termR ((bl t).drop a) a=(textR ((bl t).drop a) a).th fun s j=>.ok (false,s) j:=by rw [term_th,if_neg h,if_neg h1,if_pos h2]
theorem tm_nm (h:¬ Gr (pk t a)) (h1:¬ Dg (pk t a)) (h2:¬ pk t a=34):termR ((bl t).drop a) a=(nameR ((bl t).drop a) a).th fun s j=>.ok (false,s) j:=by rw [term_th,if_neg h,if_neg h1,if_neg h2]
theorem tm_end (h:¬ a<t.size):termR ((bl t).drop a) a= .bad a:=term_quiet (by rw [show hd ((bl t).drop a)=0 from pk_off h];exact quiet_0)
theorem piece_1 {n:Nat} (h:n=1024∨pk t a<32∨126<pk t a):pieceR n t a= .bad a:=if_pos h
theorem piece_2 {n:Nat} (h:¬ (n=1024∨pk t a<32∨126<pk t a)) (h1:pk t a≠92):pieceR n t a= .ok (pk t a) (a+1):=by unfold pieceR;rw [if_neg h,if_pos h1]
theorem piece_3 {n:Nat} (h:¬ (n=1024∨pk t a<32∨126<pk t a)) (h1:¬ pk t a≠92) (h2:pk t (a+1)≠34∧pk t (a+1)≠92∧pk t (a+1)≠110∧pk t (a+1)≠116∧pk t (a+1)≠120):pieceR n t a= .bad (a+1):=by unfold pieceR;rw [if_neg h,if_neg h1,if_pos h2]
theorem piece_4 {n x:Nat} (h:¬ (n=1024∨pk t a<32∨126<pk t a)) (h1:¬ pk t a≠92) (h2:pk t (a+1)=110∧x=10∨pk t (a+1)=116∧x=9∨(pk t (a+1)=34∨pk t (a+1)=92)∧x=pk t (a+1)):pieceR n t a= .ok x (a+2):=by
 unfold pieceR
 rw [if_neg h,if_neg h1,if_neg (by omega)]
 by_cases c1:pk t (a+1)=110
 ·rw [if_pos c1,show x=10 by omega]
 rw [if_neg c1]
 by_cases c2:pk t (a+1)=116
 ·rw [if_pos c2,show x=9 by omega]
 rw [if_neg c2,if_neg (by omega),show x=pk t (a+1) by omega]
theorem piece_5 {n:Nat} (h:¬ (n=1024∨pk t a<32∨126<pk t a)) (h1:¬ pk t a≠92) (h2:pk t (a+1)=120):pieceR n t a=(hexR t (a+2)).th fun h j=>(hexR t j).th fun k j'=>.ok (16 * h+k) j':=by
 unfold pieceR
 rw [if_neg h,if_neg h1,if_neg (by omega),if_neg (by omega),if_neg (by omega),if_pos h2]
end
end Go.QP
namespace Go.QP
open Go.Eng
section
variable {t:ByteArray} {a i a0 a1 a2 a3 a4:Nat} {bd bv b1 b2 b3 b4:Bool}
theorem argsL_th (n:Nat) (acc:List Tm):argsL (n+1) acc ((bl t).drop i) i=(skR t i).th fun _ i1=>(termR ((bl t).drop i1) i1).th fun x i2=>(skR t i2).th fun _ i3=>if pk t i3=44 then (if acc.length+1=16 then .bad i3 else argsL n (acc++[x]) ((bl t).drop (i3+1)) (i3+1)) else if pk t i3=41 then .ok (acc++[x]) (i3+1) else .bad i3:=by
 have h1:i≤sk ((bl t).drop i) i:=sk_ge
 rw [argsL]
 unfold skR
 dsimp only [Rs.th]
 rw [dd h1]
 cases ht:termR ((bl t).drop (sk ((bl t).drop i) i)) (sk ((bl t).drop i) i) with
 | bad p=>rfl
 | ok x i2=>
  have h2:=term_ge ht
  have h3:i2≤sk ((bl t).drop i2) i2:=sk_ge
  dsimp only
  rw [dd (show i≤i2 by omega),dd (show i≤sk ((bl t).drop i2) i2 by omega),dd (show i≤sk ((bl t).drop i2) i2+1 by omega)]
theorem args_th:argsR ((bl t).drop a) a=(skR t a).th fun _ a1=>if pk t a1=40 then argsL (((bl t).drop a).length+1) [] ((bl t).drop (a1+1)) (a1+1) else .ok [] a1:=by
 have h1:a≤sk ((bl t).drop a) a:=sk_ge
 unfold argsR skR
 dsimp only [Rs.th]
 rw [dd h1,dd (show a≤sk ((bl t).drop a) a+1 by omega)]
/-- where the terms in brackets stand -/
def ArI (t:ByteArray) (A:Rs (List Tm)) (i:Nat) (bv:Bool) (xs:List Tm):Prop:=i≤t.size∧¬ bv=true∧xs.length<16∧∃ n,t.size-i<n∧argsL n xs ((bl t).drop i) i=A
theorem ArI.start (h0:¬ b1=true) (h40:pk t a1=40) (ha:a≤a1):ArI t (argsL (((bl t).drop a).length+1) [] ((bl t).drop (a1+1)) (a1+1)) (a1+1) b1 []:=by
 have hlt:=pk_size h40 (by decide)
 exact ⟨hlt,h0,by decide,_,by rw [List.length_drop,bl_len];omega,rfl⟩
section
variable {A:Rs (List Tm)} {xs:List Tm} {x:Tm}
theorem ArI.th (h:ArI t A i bv xs):∃ n,t.size-i<n+1∧A=(skR t i).th fun _ i1=>(termR ((bl t).drop i1) i1).th fun x i2=>(skR t i2).th fun _ i3=>if pk t i3=44 then (if xs.length+1=16 then .bad i3 else argsL n (xs++[x]) ((bl t).drop (i3+1)) (i3+1)) else if pk t i3=41 then .ok (xs++[x]) (i3+1) else .bad i3:=by
 obtain ⟨_,_,_,n,h4,h5⟩:=h
 obtain ⟨m,rfl⟩:∃ m,n=m+1:=⟨n-1,by omega⟩
 exact ⟨m,h4,by rw [← h5,argsL_th]⟩
theorem ArI.next (h:ArI t A i bv xs) (h1:Stp (skR t i) bv i () a1 b1) (h2:Stp (termR ((bl t).drop a1) a1) b1 a1 x a2 b2) (h3:Stp (skR t a2) b2 a2 () a3 b3) (hb:¬ b3=true) (h44:pk t a3=44) (hl:xs.length+1≠16):ArI t A (a3+1) b3 (xs++[x])∧i<a3:=by
 have hlt:=pk_size h44 (by decide)
 obtain ⟨n,h4,h5⟩:=h.th
 obtain ⟨g1,g2,g3⟩:=h3.live hb
 obtain ⟨g4,g5,g6⟩:=h2.live (by rw [g1];decide)
 obtain ⟨g7,g8,g9⟩:=h1.live (by rw [g4];decide)
 have q1:=term_pos g6
 have q2:i≤sk ((bl t).drop i) i:=sk_ge
 have q3:a2≤sk ((bl t).drop a2) a2:=sk_ge
 have e9:sk ((bl t).drop i) i=a1:=by have h:=g9;unfold skR at h;injection h
 have e3:sk ((bl t).drop a2) a2=a3:=by have h:=g3;unfold skR at h;injection h
 rw [g9] at h5
 dsimp only [Rs.th] at h5
 rw [g6] at h5
 dsimp only at h5
 rw [g3] at h5
 dsimp only at h5
 rw [if_pos h44,if_neg hl] at h5
 have hlen:(xs++[x]).length=xs.length+1:=by rw [List.length_append];rfl
 refine ⟨⟨hlt,hb,?_,n,?_,h5.symm⟩,?_⟩
 ·have:=h.2.2.1;omega
 ·omega
 ·omega
theorem ArI.exit {y:Unit} (h:ArI t A i bv xs) (h1:Stp (skR t i) bv i () a1 b1) (h2:Stp (termR ((bl t).drop a1) a1) b1 a1 x a2 b2) (h3:Stp (skR t a2) b2 a2 () a3 b3) (hx:b3=true∨pk t a3≠44) (hs:Stp (sgR 41 t a3) b3 a3 y a4 b4):Stp A bv i (xs++[x]) a4 b4:=by
 obtain ⟨n,h4,h5⟩:=h.th
 refine (h1.th (h2.th (h3.th ?_))).eq h5
 by_cases hb:b3=true
 ·rcases hs with ⟨_,g1,g2⟩ | ⟨g,_⟩ | ⟨g,_⟩
  ·exact .inl ⟨hb,g1,g2⟩
  ·rw [hb] at g;cases g
  ·rw [hb] at g;cases g
 ·rw [if_neg (hx.resolve_left hb)]
  refine (hs.th (g:=fun _ j=>.ok (xs++[x]) j) Stp.ok).eq ?_
  unfold sgR
  split <;> rfl
theorem ArI.full {y:Unit} (h:ArI t A i bv xs) (h1:Stp (skR t i) bv i () a1 b1) (h2:Stp (termR ((bl t).drop a1) a1) b1 a1 x a2 b2) (h3:Stp (skR t a2) b2 a2 () a3 b3) (hb:¬ b3=true) (h44:pk t a3=44) (hl:xs.length+1=16) (hs:Stp (sgR 41 t a3) true a3 y a4 b4):Stp A bv i (xs++[x]) a4 b4:=by
 obtain ⟨n,h4,h5⟩:=h.th
 refine (h1.th (h2.th (h3.th ?_))).eq h5
 rcases hs with ⟨_,rfl,rfl⟩ | ⟨g,_⟩ | ⟨g,_⟩
 ·exact Stp.stops hb (by rw [if_pos h44,if_pos hl])
 ·cases g
 ·cases g
end
theorem args_fin {xs:List Tm} (h0:Stp (skR t a) bd a () a1 b1) (hb:¬ b1=true) (h40:pk t a1=40) (h:Stp (argsL (((bl t).drop a).length+1) [] ((bl t).drop (a1+1)) (a1+1)) b1 (a1+1) xs a2 b2):Stp (argsR ((bl t).drop a) a) bd a xs a2 b2:=by
 refine (h0.th (g:=fun _ a1=>if pk t a1=40 then argsL (((bl t).drop a).length+1) [] ((bl t).drop (a1+1)) (a1+1) else .ok [] a1) ?_).eq args_th
 rw [if_pos h40]
 exact Stp.off hb h
theorem args_no (h0:Stp (skR t a) bd a () a1 b1) (h:b1=true∨pk t a1≠40):Stp (argsR ((bl t).drop a) a) bd a [] a1 b1:=by
 refine (h0.th (g:=fun _ a1=>if pk t a1=40 then argsL (((bl t).drop a).length+1) [] ((bl t).drop (a1+1)) (a1+1) else .ok [] a1) ?_).eq args_th
 by_cases hb:b1=true
 ·exact Stp.was hb
 ·rw [if_neg (h.resolve_left hb)]
  exact Stp.ok
theorem skR_ge {y:Unit} (h0:Stp (skR t a) bd a y a1 b1):a≤a1:=by
 have h1:a≤sk ((bl t).drop a) a:=sk_ge
 rcases h0 with ⟨_,h,_⟩ | ⟨_,_,h⟩ | ⟨_,_,h⟩
 ·omega
 ·cases h
 ·injection h with _ h;omega
theorem unl_stp {a5:Nat} {b5:Bool} {x z:Tm} {y1 y2 y3 y4:Unit} (h1:Stp (skR t a) bd a y1 a1 b1) (h2:Stp (sgR 33 t a1) b1 a1 y2 a2 b2) (h3:Stp (sgR 61 t a2) b2 a2 y3 a3 b3) (h4:Stp (skR t a3) b3 a3 y4 a4 b4) (h5:Stp (termR ((bl t).drop a4) a4) b4 a4 z a5 b5):Stp (unlikeR x ((bl t).drop a) a) bd a ⟨3,ByteArray.empty,[],x,z⟩ a5 b5:=by
 rw [unl_th]
 exact h1.th (h2.th (h3.th (h4.th (h5.th Stp.ok))))
theorem atom_stp {s:ByteArray} {xs:List Tm} (h1:Stp (nameR ((bl t).drop a) a) bd a s a1 b1) (h2:Stp (argsR ((bl t).drop a1) a1) b1 a1 xs a2 b2):Stp (atomA t a) bd a (s,xs) a2 b2:=h1.th (h2.th Stp.ok)
end
end Go.QP
namespace Go.QP
open Go.Eng
section
variable {t:ByteArray} {a i a1 a2 a3 a4:Nat} {bd bv b1 b2 b3 b4:Bool} {s:ByteArray} {u:Unit} {y:Qlit} {x:Tm}
theorem lit_1 (h:¬ Sm (pk t a)) (h1:Stp (termR ((bl t).drop a) a) bd a x a1 b1) (h2:Stp (unlikeR x ((bl t).drop a1) a1) b1 a1 y a2 b2):Stp (litR ((bl t).drop a) a) bd a y a2 b2:=by
 rw [lit_term h];exact h1.th h2
theorem lit_2 (h:Sm (pk t a)) (h1:Stp (runR ((bl t).drop a) a) bd a s a1 b1) (hb:b1=true):Stp (litR ((bl t).drop a) a) bd a y a1 b1:=by
 rw [lit_word h];exact h1.th (Stp.was hb)
theorem lit_3 {z:ByteArray × List Tm} (h:Sm (pk t a)) (h1:Stp (runR ((bl t).drop a) a) bd a s a1 b1) (hn:s.toList=NOT.toList) (h2:Stp (skR t a1) b1 a1 u a2 b2) (hw:a2=a1∧Wordly ((bl t).drop a2)) (h3:Stp (atomA t a2) true a2 z a3 b3):Stp (litR ((bl t).drop a) a) bd a y a3 b3:=by
 rw [lit_word h]
 refine h1.th ?_
 rw [if_pos hn]
 refine h2.th ?_
 rcases h3 with ⟨_,rfl,rfl⟩ | ⟨g,_⟩ | ⟨g,_⟩
 ·exact Stp.bad (if_pos hw)
 ·cases g
 ·cases g
theorem lit_4 {p:ByteArray} {xs:List Tm} (h:Sm (pk t a)) (h1:Stp (runR ((bl t).drop a) a) bd a s a1 b1) (hn:s.toList=NOT.toList) (h2:Stp (skR t a1) b1 a1 u a2 b2) (hw:¬ (a2=a1∧Wordly ((bl t).drop a2))) (h3:Stp (atomA t a2) b2 a2 (p,xs) a3 b3):Stp (litR ((bl t).drop a) a) bd a ⟨2,p,xs,Tm0,Tm0⟩ a3 b3:=by
 rw [lit_word h]
 refine h1.th ?_
 rw [if_pos hn]
 refine h2.th ?_
 rw [if_neg hw,atom_th]
 exact h3.th Stp.ok
theorem lit_5 (h:Sm (pk t a)) (h1:Stp (runR ((bl t).drop a) a) bd a s a1 b1) (hn:¬ s.toList=NOT.toList) (hr:Rsv s):Stp (litR ((bl t).drop a) a) bd a y a1 true:=by
 rw [lit_word h]
 refine h1.th ?_
 rw [if_neg hn,if_pos hr]
 exact Stp.bad rfl
theorem lit_6 (h:Sm (pk t a)) (h1:Stp (runR ((bl t).drop a) a) bd a s a1 b1) (hn:¬ s.toList=NOT.toList) (hr:¬ Rsv s) (h2:Stp (skR t a1) b1 a1 u a2 b2) (h33:pk t a2=33) (h3:Stp (unlikeR (false,s) ((bl t).drop a2) a2) b2 a2 y a3 b3):Stp (litR ((bl t).drop a) a) bd a y a3 b3:=by
 rw [lit_word h]
 refine h1.th ?_
 rw [if_neg hn,if_neg hr]
 refine h2.th ?_
 rw [if_pos h33]
 exact h3
theorem lit_7 {xs:List Tm} (h:Sm (pk t a)) (h1:Stp (runR ((bl t).drop a) a) bd a s a1 b1) (hn:¬ s.toList=NOT.toList) (hr:¬ Rsv s) (h2:Stp (skR t a1) b1 a1 u a2 b2) (h33:¬ pk t a2=33) (h3:Stp (argsR ((bl t).drop a2) a2) b2 a2 xs a3 b3):Stp (litR ((bl t).drop a) a) bd a ⟨1,s,xs,Tm0,Tm0⟩ a3 b3:=by
 rw [lit_word h]
 refine h1.th ?_
 rw [if_neg hn,if_neg hr]
 refine h2.th ?_
 rw [if_neg h33]
 exact h3.th Stp.ok
theorem bodyL_th (n:Nat) (acc:List Qlit):bodyL (n+1) acc ((bl t).drop i) i=(skR t i).th fun _ i1=>(litR ((bl t).drop i1) i1).th fun x i2=>(skR t i2).th fun _ i3=>if pk t i3=44 then (if acc.length+1=256 then .bad i3 else bodyL n (acc++[x]) ((bl t).drop (i3+1)) (i3+1)) else .ok (acc++[x]) i3:=by
 have h1:i≤sk ((bl t).drop i) i:=sk_ge
 rw [bodyL]
 unfold skR
 dsimp only [Rs.th]
 rw [dd h1]
 cases ht:litR ((bl t).drop (sk ((bl t).drop i) i)) (sk ((bl t).drop i) i) with
 | bad p=>rfl
 | ok x i2=>
  have h2:=(lit_pos ht).1
  have h3:i2≤sk ((bl t).drop i2) i2:=sk_ge
  dsimp only
  rw [dd (show i≤i2 by omega),dd (show i≤sk ((bl t).drop i2) i2 by omega),dd (show i≤sk ((bl t).drop i2) i2+1 by omega)]
/-- where a body stands -/
def BdI (t:ByteArray) (A:Rs (List Qlit)) (i:Nat) (bv:Bool) (xs:List Qlit):Prop:=i≤t.size∧xs.length<256∧((bv=true∧A= .bad i)∨(bv=false∧∃ n,t.size-i<n∧bodyL n xs ((bl t).drop i) i=A))
/-- behind a head's sign -/
def bodyB (t:ByteArray) (a1:Nat):Rs (List Qlit):=(sgR 45 t (a1+1)).th fun _ a2=>bodyL (((bl t).drop a2).length+1) [] ((bl t).drop a2) a2
theorem BdI.start (h0:¬ b1=true) (h:Stp (sgR 45 t (a1+1)) b1 (a1+1) u a2 b2) (ha:a2≤t.size):BdI t (bodyB t a1) a2 b2 []:=by
 refine ⟨ha,by decide,?_⟩
 unfold bodyB
 rcases h with ⟨g,_⟩ | ⟨_,g1,g2⟩ | ⟨_,g1,g2⟩
 ·exact absurd g h0
 ·exact .inl ⟨g1,by rw [g2]⟩
 ·exact .inr ⟨g1,((bl t).drop a2).length+1,by rw [List.length_drop,bl_len];omega,by rw [g2]⟩
section
variable {A:Rs (List Qlit)} {xs:List Qlit} {y:Qlit} {u1 u2:Unit}
theorem BdI.th (h:BdI t A i bv xs) (hb:¬ bv=true):∃ n,t.size-i<n+1∧A=(skR t i).th fun _ i1=>(litR ((bl t).drop i1) i1).th fun x i2=>(skR t i2).th fun _ i3=>if pk t i3=44 then (if xs.length+1=256 then .bad i3 else bodyL n (xs++[x]) ((bl t).drop (i3+1)) (i3+1)) else .ok (xs++[x]) i3:=by
 obtain ⟨_,_,h3⟩:=h
 rcases h3 with ⟨g,_⟩ | ⟨_,n,h4,h5⟩
 ·exact absurd g hb
 obtain ⟨m,rfl⟩:∃ m,n=m+1:=⟨n-1,by omega⟩
 exact ⟨m,h4,by rw [← h5,bodyL_th]⟩
theorem BdI.next (h:BdI t A i bv xs) (hbv:¬ bv=true) (h1:Stp (skR t i) bv i u1 a1 b1) (h2:Stp (litR ((bl t).drop a1) a1) b1 a1 y a2 b2) (h3:Stp (skR t a2) b2 a2 u2 a3 b3) (hb:¬ b3=true) (h44:pk t a3=44) (hl:xs.length+1≠256):BdI t A (a3+1) b3 (xs++[y])∧i<a3:=by
 have hlt:=pk_size h44 (by decide)
 obtain ⟨n,h4,h5⟩:=h.th hbv
 obtain ⟨g1,g2,g3⟩:=h3.live hb
 obtain ⟨g4,g5,g6⟩:=h2.live (by rw [g1];decide)
 obtain ⟨g7,g8,g9⟩:=h1.live (by rw [g4];decide)
 have q1:=lit_pos g6
 have q2:i≤sk ((bl t).drop i) i:=sk_ge
 have q3:a2≤sk ((bl t).drop a2) a2:=sk_ge
 have e9:sk ((bl t).drop i) i=a1:=by have h:=g9;unfold skR at h;injection h
 have e3:sk ((bl t).drop a2) a2=a3:=by have h:=g3;unfold skR at h;injection h
 rw [g9] at h5
 dsimp only [Rs.th] at h5
 rw [g6] at h5
 dsimp only at h5
 rw [g3] at h5
 dsimp only at h5
 rw [if_pos h44,if_neg hl] at h5
 have hlen:(xs++[y]).length=xs.length+1:=by rw [List.length_append];rfl
 have:=h.2.1
 exact ⟨⟨hlt,by omega,.inr ⟨g2,n,by omega,h5.symm⟩⟩,by omega⟩
theorem BdI.exit (h:BdI t A i bv xs) (hbv:¬ bv=true) (h1:Stp (skR t i) bv i u1 a1 b1) (h2:Stp (litR ((bl t).drop a1) a1) b1 a1 y a2 b2) (h3:Stp (skR t a2) b2 a2 u2 a3 b3) (hx:b3=true∨pk t a3≠44):Stp A bv i (xs++[y]) a3 b3:=by
 obtain ⟨n,h4,h5⟩:=h.th hbv
 refine (h1.th (h2.th (h3.th ?_))).eq h5
 by_cases hb:b3=true
 ·exact Stp.was hb
 ·rw [if_neg (hx.resolve_left hb)]
  exact Stp.ok
theorem BdI.full (h:BdI t A i bv xs) (hbv:¬ bv=true) (h1:Stp (skR t i) bv i u1 a1 b1) (h2:Stp (litR ((bl t).drop a1) a1) b1 a1 y a2 b2) (h3:Stp (skR t a2) b2 a2 u2 a3 b3) (h44:pk t a3=44) (hl:xs.length+1=256):Stp A bv i (xs++[y]) a3 true:=by
 obtain ⟨n,h4,h5⟩:=h.th hbv
 refine (h1.th (h2.th (h3.th ?_))).eq h5
 exact Stp.bad (by rw [if_pos h44,if_pos hl])
theorem BdI.stop {bd:Bool} (h:BdI t A i bv xs) (hbv:bv=true) (hd:¬ bd=true):Stp A bd a xs i bv:=by
 rcases h.2.2 with ⟨_,g⟩ | ⟨g,_⟩
 ·rw [hbv];exact Stp.stops hd g
 ·rw [hbv] at g;cases g
end
theorem body_fin {q:List Qlit} {u1 u2:Unit} (h0:Stp (skR t a) bd a u1 a1 b1) (h1:Stp (if pk t a1=58 then bodyB t a1 else .ok [] a1) b1 a1 q a2 b2) (h2:Stp (sgR 46 t a2) b2 a2 u2 a3 b3):Stp (bodyA t a) bd a q a3 b3:=by
 unfold bodyB at h1
 unfold bodyA
 refine h0.th ?_
 refine h1.th ?_
 exact h2.th Stp.ok
theorem body_in {q:List Qlit} (hb:¬ b1=true) (hv:¬ bv=true) (h58:pk t a1=58) (h:Stp (bodyB t a1) bv i q a2 b2):Stp (if pk t a1=58 then bodyB t a1 else .ok [] a1) b1 a1 q a2 b2:=by
 rw [if_pos h58];exact Stp.re hb hv h
theorem body_no (h:b1=true∨¬ pk t a1=58):Stp (if pk t a1=58 then bodyB t a1 else .ok [] a1) b1 a1 [] a1 b1:=by
 by_cases hb:b1=true
 ·exact Stp.was hb
 ·rw [if_neg (h.resolve_left hb)];exact Stp.ok
theorem rule_stp {x:ByteArray × List Tm} {q:List Qlit} {u1 u2:Unit} (h1:Stp (skR t 0) false 0 u1 a1 b1) (h2:Stp (atomA t a1) b1 a1 x a2 b2) (h3:Stp (bodyA t a2) b2 a2 q a3 b3) (h4:Stp (skR t a3) b3 a3 u2 a4 b4):(b4=true∧ruleA t= .bad a4)∨(b4=false∧ruleA t=if a4<t.size then .bad a4 else .ok (x,q) a4):=by
 have h:=h1.th (g:=fun _ a1=>(atomA t a1).th fun x a2=>(bodyA t a2).th fun q a3=>(skR t a3).th fun _ a4=>.ok (x,q,a4) a4) (h2.th (h3.th (h4.th Stp.ok)))
 have e:ruleA t=((skR t 0).th fun _ a1=>(atomA t a1).th fun x a2=>(bodyA t a2).th fun q a3=>(skR t a3).th fun _ a4=>.ok (x,q,a4) a4).th fun z a4=>if a4<t.size then .bad a4 else .ok (z.1,z.2.1) a4:=by
  unfold ruleA
  cases skR t 0 with
  | bad p=>rfl
  | ok u1 a1=>
   dsimp only [Rs.th]
   cases atomA t a1 with
   | bad p=>rfl
   | ok x a2=>
    dsimp only
    cases bodyA t a2 with
    | bad p=>rfl
    | ok q a3=>
     dsimp only
     cases skR t a3 <;> rfl
 rcases h with ⟨g,_⟩ | ⟨_,g1,g2⟩ | ⟨_,g1,g2⟩
 ·cases g
 ·exact .inl ⟨g1,by rw [e,g2]⟩
 ·exact .inr ⟨g1,by rw [e,g2]⟩
end
end Go.QP
namespace Go.QP
open Go.Eng
/-- what is put ahead of a text -/
abbrev HQ:ByteArray:=ByteArray.mk #[113,58,45]
section
variable {t u:ByteArray} {a i:Nat}
theorem hq_bl (u:ByteArray):bl (HQ++u)=113::58::45::bl u:=by rw [bl_append];rfl
theorem hq_drop (u:ByteArray) {j:Nat} (h:3≤j):(bl (HQ++u)).drop j=dr (bl u) 3 j:=by
 obtain ⟨k,rfl⟩:∃ k,j=k+3:=⟨j-3,by omega⟩
 rw [hq_bl]
 unfold dr
 rw [Nat.add_sub_cancel]
 rfl
theorem hq_size (u:ByteArray):(HQ++u).size=3+u.size:=by rw [ByteArray.size_append];rfl
theorem hq_atom (u:ByteArray):atomA (HQ++u) 0= .ok (sN [113],[]) 1:=by
 have h0:(bl (HQ++u)).drop 0=113::58::45::bl u:=by rw [hq_bl];rfl
 have h1:(bl (HQ++u)).drop 1=58::45::bl u:=by rw [hq_bl];rfl
 have hr:runR ((bl (HQ++u)).drop 0) 0= .ok (sN [113]) 1:=by
  rw [h0]
  unfold runR
  have:wordN false 65 (113::58::45::bl u)=1:=by
   rw [wordN,if_pos (by decide),wordN,if_neg (by decide)]
  rw [this,if_neg (by decide)]
  rfl
 have hn:nameR ((bl (HQ++u)).drop 0) 0= .ok (sN [113]) 1:=by
  rw [name_th,if_neg (by rw [h0];show ¬ ¬ Sm 113;decide),hr]
  show (if _ then _ else _)=_
  rw [if_neg (by decide +kernel)]
 have ha:argsR ((bl (HQ++u)).drop 1) 1= .ok [] 1:=by
  rw [h1]
  rfl
 unfold atomA
 rw [hn]
 dsimp only [Rs.th]
 rw [ha]
theorem hq_body (u:ByteArray):bodyA (HQ++u) 1=(EF RS0 (bl u) 3 3).th fun q j=>(sgR 46 (HQ++u) j).th fun _ a4=>.ok q a4:=by
 have h1:(bl (HQ++u)).drop 1=58::45::bl u:=by rw [hq_bl];rfl
 have h2:(bl (HQ++u)).drop 2=45::bl u:=by rw [hq_bl];rfl
 have h3:(bl (HQ++u)).drop 3=bl u:=by rw [hq_bl];rfl
 have e1:skR (HQ++u) 1= .ok () 1:=by unfold skR;rw [h1];rfl
 have e2:pk (HQ++u) 1=58:=by unfold pk;rw [h1];rfl
 have e3:sgR 45 (HQ++u) 2= .ok () 3:=by unfold sgR pk;rw [h2];rfl
 unfold bodyA
 rw [e1]
 dsimp only [Rs.th]
 rw [if_pos e2,e3]
 dsimp only
 rw [h3,body_all]
theorem hq_rule (u:ByteArray):ruleA (HQ++u)=(ruleR (bl u) 3).th fun q p=>.ok ((sN [113],[]),q) p:=by
 have e0:skR (HQ++u) 0= .ok () 0:=by
  unfold skR
  have h0:(bl (HQ++u)).drop 0=113::58::45::bl u:=by rw [hq_bl];rfl
  rw [h0]
  rfl
 unfold ruleA
 rw [e0]
 dsimp only [Rs.th]
 rw [hq_atom]
 dsimp only
 rw [hq_body,rule_ef]
 have hge:3≤(EF RS0 (bl u) 3 3).pos:=ef_ge' (Nat.le_refl _) (by decide)
 cases he:EF RS0 (bl u) 3 3 with
 | bad p=>rfl
 | ok q j=>
  rw [he] at hge
  have hge:3≤j:=hge
  dsimp only [Rs.th]
  unfold sgR pk
  rw [hq_drop u hge]
  by_cases h46:hd (dr (bl u) 3 j)=46
  ·rw [if_pos h46,if_pos h46]
   dsimp only
   unfold skR
   dsimp only
   rw [hq_drop u (show 3≤j+1 by omega),hq_size,bl_len]
   split <;> rfl
  ·rw [if_neg h46,if_neg h46]
section
variable {a4:Nat} {b4:Bool} {z:(ByteArray × List Tm) × List Qlit}
theorem rule_b1 (h:(b4=true∧ruleA t= .bad a4)∨(b4=false∧ruleA t=if a4<t.size then .bad a4 else .ok z a4)) (hb:b4=true):ruleA t= .bad a4:=by
 rcases h with h | h
 ·exact h.2
 ·rw [hb] at h;cases h.1
theorem rule_b2 (h:(b4=true∧ruleA t= .bad a4)∨(b4=false∧ruleA t=if a4<t.size then .bad a4 else .ok z a4)) (hb:¬ b4=true) (ha:a4<t.size):ruleA t= .bad a4:=by
 rcases h with h | h
 ·exact absurd h.1 hb
 ·rw [h.2,if_pos ha]
theorem rule_k (h:(b4=true∧ruleA t= .bad a4)∨(b4=false∧ruleA t=if a4<t.size then .bad a4 else .ok z a4)) (hb:¬ b4=true) (ha:¬ a4<t.size):ruleA t= .ok z a4:=by
 rcases h with h | h
 ·exact absurd h.1 hb
 ·rw [h.2,if_neg ha]
end
/-- what a rule's reading tells -/
def Ru (l:List Nat) (ok:Bool) (n:Nat) (q:List Qlit):Prop:=(ok=true∧n=0∧∃ p,ruleR l 3= .ok q p)∨(ok=false∧3≤n∧ruleR l 3= .bad n)
theorem rule_ge (l:List Nat):3≤(ruleR l 3).pos:=by
 rw [rule_ef]
 have hge:3≤(EF RS0 l 3 3).pos:=ef_ge' (Nat.le_refl _) (by decide)
 refine th_ge hge fun q p he=>?_
 have h1:p+1≤sk (dr l 3 (p+1)) (p+1):=(sk_le _ _).1
 split
 ·split
  ·show p≤sk (dr l 3 (p+1)) (p+1);omega
  ·show p≤sk (dr l 3 (p+1)) (p+1);omega
 ·exact Nat.le_refl _
theorem Ru.ok_ {q:List Qlit} {p:Nat} {x:ByteArray × List Tm} (h:ruleA (HQ++u)= .ok (x,q) p):Ru (bl u) true 0 q:=by
 rw [hq_rule] at h
 cases hr:ruleR (bl u) 3 with
 | bad p=>rw [hr] at h;cases h
 | ok q' p'=>
  rw [hr] at h
  injection h with h1 h2
  injection h1 with _ h1
  exact .inl ⟨rfl,rfl,p',by rw [hr,h1]⟩
theorem Ru.bad_ {n:Nat} {q:List Qlit} (h:ruleA (HQ++u)= .bad n):Ru (bl u) false n q:=by
 rw [hq_rule] at h
 have hg:=rule_ge (bl u)
 cases hr:ruleR (bl u) 3 with
 | bad p=>
  rw [hr] at h hg
  injection h with h1
  exact .inr ⟨rfl,by rw [← h1];exact hg,by rw [hr,h1]⟩
 | ok q' p'=>rw [hr] at h;cases h
theorem Ru.good {l:List Nat} {ok:Bool} {n:Nat} {q:List Qlit} (h:Ru l ok n q):(ruleR l 3).good↔ok=true:=by
 rcases h with ⟨h1,_,p,h2⟩ | ⟨h1,_,h2⟩
 ·rw [h2];exact ⟨fun _=>h1,fun _=>trivial⟩
 ·rw [h2,h1];exact ⟨fun h=>h.elim,fun h=>by cases h⟩
theorem blank_shift (l:List Nat) (b:Bool) (i k:Nat):blankP l b (i+k)=blankP l b i+k:=by
 induction l generalizing b i with
 | nil=>cases b <;> rfl
 | cons c l ih=>
  cases b with
  | true=>rw [blankP,blankP,show i+k+1=i+1+k by omega,ih]
  | false=>
   rw [blankP,blankP]
   by_cases h:c=37
   ·rw [if_pos h,if_pos h,show i+k+1=i+1+k by omega,ih]
   rw [if_neg h,if_neg h]
   by_cases h2:c≠32∧c≠9∧c≠10∧c≠13
   ·rw [if_pos h2,if_pos h2]
   ·rw [if_neg h2,if_neg h2,show i+k+1=i+1+k by omega,ih]
section
variable {rm:Bool} {R:Nat}
theorem bl_nl (hq:blankP ((bl t).drop i) rm i=R) (h:i<t.size) (hc:ch t i=10):blankP ((bl t).drop (i+1)) false (i+1)=R:=by
 rw [← hq,drop_ch h,hc]
 cases rm <;> rfl
theorem bl_rm (hq:blankP ((bl t).drop i) rm i=R) (h:i<t.size) (hc:¬ ch t i=10) (hr:rm=true):blankP ((bl t).drop (i+1)) rm (i+1)=R:=by
 have:=bk_t hq h hr
 rw [decide_eq_true hc] at this
 rw [hr];exact this
end
/-- the search for the dot -/
def FaI (t:ByteArray) (i:Nat):Prop:=i≤t.size∧farS (bl t) (t.size-i) i=farS (bl t) (bl t).length 0
theorem FaI.start:FaI t 0:=⟨Nat.zero_le _,by rw [bl_len];rfl⟩
theorem pre_bl:bl (t.extract 0 (i+1))=(bl t).take (i+1):=by
 rw [bl_extract];rfl
theorem FaI.step {ok:Bool} {n:Nat} {q:List Qlit} (h:FaI t i) (hi:i<t.size) (hr:Ru (bl (t.extract 0 (i+1))) ok n q) (hn:¬ (ok=true∧ch t i=46)):FaI t (i+1):=by
 refine ⟨hi,?_⟩
 rw [← h.2,show t.size-i=(t.size-(i+1))+1 by omega,farS,if_neg]
 rw [← pre_bl,hr.good]
 rintro ⟨h1,h2⟩
 exact hn ⟨h1,by rw [← hd_at hi];exact h2⟩
theorem FaI.here {ok:Bool} {n:Nat} {q:List Qlit} (h:FaI t i) (hi:i<t.size) (hr:Ru (bl (t.extract 0 (i+1))) ok n q) (h1:ok=true) (h2:ch t i=46):i=farS (bl t) (bl t).length 0:=by
 rw [← h.2,show t.size-i=(t.size-(i+1))+1 by omega,farS,if_pos]
 exact ⟨by rw [← pre_bl];exact hr.good.2 h1,by rw [hd_at hi];exact h2⟩
theorem FaI.fin (h:FaI t i) (hi:¬ i<t.size):t.size=farS (bl t) (bl t).length 0:=by
 have:=h.1
 rw [← h.2,show t.size-i=0 by omega,farS]
 omega
theorem pre_bl' (f:Nat):bl (t.extract 0 f)=(bl t).take f:=by
 rw [bl_extract];rfl
theorem far_1 {f n:Nat} {ok:Bool} {q:List Qlit} (hf:f=farS (bl t) (bl t).length 0) (hr:Ru (bl (t.extract 0 f)) ok n q) (h:ok=true∨¬ ((n:Int)-3<(f:Int))):f=farR (bl t):=by
 unfold farR
 simp only
 rw [← hf,← pre_bl']
 rcases hr with ⟨_,_,p,h2⟩ | ⟨h1,h3,h2⟩
 ·rw [h2]
 ·rw [h2]
  show _=if _ then _ else _
  rw [if_neg]
  rcases h with h | h
  ·rw [h1] at h;cases h
  ·omega
theorem far_2 {f n:Nat} {ok:Bool} {q:List Qlit} (hf:f=farS (bl t) (bl t).length 0) (hr:Ru (bl (t.extract 0 f)) ok n q) (h1:¬ ok=true) (h:(n:Int)-3<(f:Int)):n-3=farR (bl t)∧3≤n:=by
 unfold farR
 simp only
 rw [← hf,← pre_bl']
 rcases hr with ⟨h1',_⟩ | ⟨_,h3,h2⟩
 ·exact absurd h1' h1
 ·rw [h2]
  refine ⟨?_,h3⟩
  show _=if _ then _ else _
  rw [if_pos (by omega)]
theorem ref_1 {f:Nat} (hf:f=farR (bl t)) (h:f=t.size∨f<t.size∧ch t f≠63):refP (bl t)=(none,f):=by
 unfold refP
 simp only
 rw [← hf,if_pos]
 rcases h with h | ⟨h1,h2⟩
 ·exact .inl (by rw [bl_len];exact h)
 ·exact .inr (by rw [hd_at h1];exact h2)
theorem ref_ru {f:Nat}:bl ((t.extract 0 f)++ByteArray.mk #[10,46])=(bl t).take f++[10,46]:=by
 rw [bl_append,pre_bl'];rfl
theorem ref_2 {f n:Nat} {ok:Bool} {q:List Qlit} (hf:f=farR (bl t)) (h1:f<t.size) (h2:ch t f=63) (hr:Ru (bl ((t.extract 0 f)++ByteArray.mk #[10,46])) ok n q) (h:¬ ok=true):refP (bl t)=(none,f):=by
 rw [ref_ru] at hr
 unfold refP
 simp only
 rw [← hf,if_neg (by rw [bl_len,hd_at h1];omega)]
 rcases hr with ⟨h1',_⟩ | ⟨_,h3,h2⟩
 ·exact absurd h1' h
 ·rw [h2]
theorem ref_3 {f n p:Nat} {ok:Bool} {q:List Qlit} (hf:f=farR (bl t)) (h1:f<t.size) (h2:ch t f=63) (hr:Ru (bl ((t.extract 0 f)++ByteArray.mk #[10,46])) ok n q) (h:ok=true) (hp:p=f+1+blankP (bl (t.extract (f+1) t.size)) false 0):refP (bl t)=if p<t.size then (none,p) else (some q,0):=by
 rw [ref_ru] at hr
 have e:bl (t.extract (f+1) t.size)=(bl t).drop (f+1):=by
  rw [bl_extract,List.take_of_length_le (by rw [List.length_drop,bl_len];exact Nat.le_refl _)]
 have e2:blankP ((bl t).drop (f+1)) false (f+1)=p:=by
  have:=blank_shift ((bl t).drop (f+1)) false 0 (f+1)
  rw [Nat.zero_add] at this
  rw [this,hp,e];omega
 unfold refP
 simp only
 rw [← hf,if_neg (by rw [bl_len,hd_at h1];omega)]
 rcases hr with ⟨_,_,p',h3⟩ | ⟨h3,_⟩
 ·rw [h3,e2,bl_len]
 ·rw [h] at h3;cases h3
end
end Go.QP
