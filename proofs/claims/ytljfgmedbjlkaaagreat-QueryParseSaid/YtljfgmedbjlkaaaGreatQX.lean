/- Plain law: the question's reader as a whole. -/
import Derived.Test.YtljfgmedbjlkaaaGreatQH
import Derived.Test.YtljfgmedbjlkaaaGreatSX
import Derived.Lib.IndexLaws
import Derived.Test.YtljfgmedbjlkaaaGreatVB
namespace Go.Proofs.YtljfgmedbjlkaaaGreat
open Go.RowKit Go.Eng Go.QP
theorem rem_idx:∀ (u:List UInt8) (i:Nat),(Lib.indexByte u 10= -1→blankP (u.map (·.toNat)) true i=i+u.length)∧∀ k:Nat,Lib.indexByte u 10=(k:Int)→k<u.length∧blankP (u.map (·.toNat)) true i=blankP ((u.map (·.toNat)).drop k) false (i+k)
 | [],i=>⟨fun _=>rfl,fun k h=>by rw [Lib.indexByte] at h;omega⟩
 | b::u,i=>by
  obtain ⟨h1,h2⟩:=rem_idx u (i+1)
  have hge:=Lib.indexByte_ge u 10
  rw [Lib.indexByte,List.map_cons,blankP]
  by_cases hb:b=10
  ·subst hb
   rw [if_pos (by decide)]
   refine ⟨fun h=>by omega,fun k hk=>?_⟩
   have:k=0:=by omega
   subst this
   refine ⟨by simp,?_⟩
   rw [List.drop_zero,blankP]
   rfl
  ·have hn:¬ b.toNat=10:=fun h=>hb (UInt8.toNat_inj.1 h)
   rw [if_neg (by simpa using hb),decide_eq_true hn]
   by_cases hz:Lib.indexByte u 10= -1
   ·rw [if_pos (by simpa using hz)]
    exact ⟨fun _=>by rw [h1 hz,List.length_cons];omega,fun k hk=>by omega⟩
   ·rw [if_neg (by simpa using hz)]
    refine ⟨fun h=>by omega,fun k hk=>?_⟩
    have hk':Lib.indexByte u 10=((k-1:Nat):Int):=by omega
    obtain ⟨h3,h4⟩:=h2 (k-1) hk'
    refine ⟨by rw [List.length_cons];omega,?_⟩
    rw [h4,show k=k-1+1 by omega,List.drop_succ_cons,show i+1+(k-1+1-1)=i+(k-1+1) by omega,show k-1+1-1=k-1 by omega]
theorem idx_blank {t:ByteArray} {i R:Nat} (hq:blankP ((bl t).drop i) false i=R) (h:i<t.size) (hc:ch t i=37) :
  (Lib.indexByte (t.extract i t.size).data.toList (10:Int).toNat.toUInt8<0→R=t.size)∧(¬ Lib.indexByte (t.extract i t.size).data.toList (10:Int).toNat.toUInt8<0→i+(Lib.indexByte (t.extract i t.size).data.toList (10:Int).toNat.toUInt8).toNat<t.size∧(0:Int)<Lib.indexByte (t.extract i t.size).data.toList (10:Int).toNat.toUInt8∧blankP ((bl t).drop (i+(Lib.indexByte (t.extract i t.size).data.toList (10:Int).toNat.toUInt8).toNat)) false (i+(Lib.indexByte (t.extract i t.size).data.toList (10:Int).toNat.toUInt8).toNat)=R):=by
 have e1:(t.extract i t.size).data.toList.map (·.toNat)=(bl t).drop i:=by
  have:=bl_extract t i t.size
  unfold bl at this
  rw [this,List.take_of_length_le]
  ·rfl
  ·rw [List.length_drop]
   have:=bl_len t
   unfold bl at this
   omega
 have hlen:(t.extract i t.size).data.toList.length=t.size-i:=by
  have:=congrArg List.length e1
  rw [List.length_map,List.length_drop,bl_len] at this
  exact this
 obtain ⟨h1,h2⟩:=rem_idx (t.extract i t.size).data.toList i
 have hge:=Lib.indexByte_ge (t.extract i t.size).data.toList 10
 have hr:blankP ((bl t).drop i) true i=R:=by
  rw [← hq,drop_ch h,blankP,blankP,if_pos hc,hc];rfl
 rw [e1,hr,hlen] at h1
 change (Lib.indexByte (t.extract i t.size).data.toList 10<0→R=t.size)∧(¬ Lib.indexByte (t.extract i t.size).data.toList 10<0→i+(Lib.indexByte (t.extract i t.size).data.toList 10).toNat<t.size∧(0:Int)<Lib.indexByte (t.extract i t.size).data.toList 10∧blankP ((bl t).drop (i+(Lib.indexByte (t.extract i t.size).data.toList 10).toNat)) false (i+(Lib.indexByte (t.extract i t.size).data.toList 10).toNat)=R)
 refine ⟨fun hz=>?_,fun hz=>?_⟩
 ·rw [h1 (by omega)];omega
 ·obtain ⟨h3,h4⟩:=h2 (Lib.indexByte (t.extract i t.size).data.toList 10).toNat (by omega)
  rw [e1,hr,List.drop_drop] at h4
  rw [hlen] at h3
  refine ⟨by omega,?_,h4.symm⟩
  rcases Int.lt_or_le 0 (Lib.indexByte (t.extract i t.size).data.toList 10) with hp | hp
  ·exact hp
  ·have h0:Lib.indexByte (t.extract i t.size).data.toList 10=((0:Nat):Int):=by omega
   have h5:=(Lib.indexByte_some h0).1
   have h6:=congrArg (fun l=>l[0]?) e1
   simp only [List.getElem?_map,h5,drop_ch h,List.getElem?_cons_zero,Option.map_some] at h6
   injection h6 with h6
   rw [hc] at h6
   exact absurd h6 (by decide)
section
variable {t:ByteArray} {r:RS} {tk:Tk}
theorem ps_j (hy:takesS RS0 (toksOf t).1=(r,some tk)) (h:(tk.k=5∨tk.k=6∨tk.k=7)∧wantsS r.at_ 1):parseS t=(none,tk.j):=by
 unfold parseS;dsimp only;rw [hy];exact if_pos h
theorem ps_i (hy:takesS RS0 (toksOf t).1=(r,some tk)) (h:¬ ((tk.k=5∨tk.k=6∨tk.k=7)∧wantsS r.at_ 1)):parseS t=(none,tk.i):=by
 unfold parseS;dsimp only;rw [hy];exact if_neg h
def PsO (t:ByteArray) (r:RS):Prop:=((toksOf t).2.1.k=4∧¬ wantsS r.at_ 4)∨(toksOf t).2.1.k=13∨((toksOf t).2.1.k=14∧r.at_≠2∧r.at_≠6)
instance (t:ByteArray) (r:RS):Decidable (PsO t r):=inferInstanceAs (Decidable (_∨_))
theorem pso1 (h:(toksOf t).2.1.k=4):¬ wantsS r.at_ 4↔PsO t r:=⟨fun hw=>.inl ⟨h,hw⟩,fun hp=>hp.elim (fun h=>h.2) fun hp=>by omega⟩
theorem pso2 (h:(toksOf t).2.1.k=13):(toksOf t).2.1.k=13↔PsO t r:=⟨fun h=>.inr (.inl h),fun _=>h⟩
theorem pso3 (h:(toksOf t).2.1.k=14) (h2:r.at_≠2):r.at_≠6↔PsO t r:=⟨fun h6=>.inr (.inr ⟨h,h2,h6⟩),fun hp=>hp.elim (fun h=>by omega) fun hp=>hp.elim (fun h=>by omega) fun h=>h.2.2⟩
theorem pso4 (h4:(toksOf t).2.1.k≠4∨wantsS r.at_ 4) (h13:(toksOf t).2.1.k≠13) (h14:(toksOf t).2.1.k≠14∨r.at_=2):¬ PsO t r:=fun hp=>hp.elim (fun h=>h4.elim (fun h'=>h' h.1) fun h'=>h.2 h') fun hp=>hp.elim (fun h=>h13 h) fun h=>h14.elim (fun h'=>h' h.1) fun h'=>h.2.1 h'
theorem ps_open (hy:takesS RS0 (toksOf t).1=(r,none)) (h:PsO t r):parseS t=(none,(toksOf t).2.1.i):=by
 unfold parseS;dsimp only;rw [hy];exact if_pos h
theorem ps_far (hy:takesS RS0 (toksOf t).1=(r,none)) (h:¬ PsO t r) (h2:(toksOf t).2.1.k≠0∨t.size≤(toksOf t).2.2∨ch t (toksOf t).2.2≠63∨(endsS r).at_≠8):parseS t=(none,(toksOf t).2.2):=by
 unfold parseS;dsimp only;rw [hy];dsimp only;exact (if_neg h).trans (if_pos h2)
theorem ps_tail (hy:takesS RS0 (toksOf t).1=(r,none)) (h:¬ PsO t r) (h2:¬ ((toksOf t).2.1.k≠0∨t.size≤(toksOf t).2.2∨ch t (toksOf t).2.2≠63∨(endsS r).at_≠8)) {p:Nat} (hp:blankP ((bl t).drop ((toksOf t).2.2+1)) false ((toksOf t).2.2+1)=p) (hlt:p<t.size):parseS t=(none,p):=by
 unfold parseS;dsimp only;rw [hy];dsimp only;subst hp;exact ((if_neg h).trans (if_neg h2)).trans (if_pos hlt)
theorem ps_ok (hy:takesS RS0 (toksOf t).1=(r,none)) (h:¬ PsO t r) (h2:¬ ((toksOf t).2.1.k≠0∨t.size≤(toksOf t).2.2∨ch t (toksOf t).2.2≠63∨(endsS r).at_≠8)) {p:Nat} (hp:blankP ((bl t).drop ((toksOf t).2.2+1)) false ((toksOf t).2.2+1)=p) (hlt:¬ p<t.size):parseS t=(some (endsS r).q,0):=by
 unfold parseS;dsimp only;rw [hy];dsimp only;subst hp;exact ((if_neg h).trans (if_neg h2)).trans (if_neg hlt)
theorem takes_step {x:RS} {l:List Tk} {i:Nat} {R:RS × Option Tk} (h:takesS x (l.drop i)=R) (hi:i<l.length) {y:RS} (hy:takeS x (el l i).k (el l i).s=some y):takesS y (l.drop (i+1))=R:=by
 rw [List.drop_eq_getElem_cons hi,← el_eq hi,takesS,hy] at h
 exact h
theorem takes_bad {x:RS} {l:List Tk} {i:Nat} {R:RS × Option Tk} (h:takesS x (l.drop i)=R) (hi:i<l.length) (hy:takeS x (el l i).k (el l i).s=none):R=(x,some (el l i)):=by
 rw [List.drop_eq_getElem_cons hi,← el_eq hi,takesS,hy] at h
 exact h.symm
theorem takes_end {x:RS} {l:List Tk} {i:Nat} {R:RS × Option Tk} (h:takesS x (l.drop i)=R) (hi:¬ i<l.length):R=(x,none):=by
 rw [List.drop_eq_nil_of_le (by omega),takesS] at h
 exact h.symm
theorem toksP_len:∀ (n:Nat) (i:Nat) (jt:Int),(toksP n ((bl t).drop i) i jt).1.length≤t.size-i
 | 0,i,jt=>Nat.zero_le _
 | n+1,i,jt=>by
  rw [toksP]
  by_cases hi:i<t.size
  ·rw [if_neg (tk_ne hi)]
   dsimp only
   split
   ·exact Nat.zero_le _
   split
   ·split <;> exact Nat.zero_le _
   ·rename_i hn
    obtain ⟨n1,n2⟩:=next_le hi
    have n2:=n2 (by simpa using hn)
    have n3:=(blankP_le ((bl t).drop (nextP ((bl t).drop i) i).1.j) false (nextP ((bl t).drop i) i).1.j).1
    have e1:((bl t).drop i).drop ((nextP ((bl t).drop i) i).1.j-i)=(bl t).drop (nextP ((bl t).drop i) i).1.j:=by rw [List.drop_drop];congr 1;omega
    rw [e1]
    have e2:((bl t).drop (nextP ((bl t).drop i) i).1.j).drop (blankP ((bl t).drop (nextP ((bl t).drop i) i).1.j) false (nextP ((bl t).drop i) i).1.j-(nextP ((bl t).drop i) i).1.j)=(bl t).drop (blankP ((bl t).drop (nextP ((bl t).drop i) i).1.j) false (nextP ((bl t).drop i) i).1.j):=by rw [List.drop_drop];congr 1;omega
    rw [e2,List.length_cons]
    have:=toksP_len n (blankP ((bl t).drop (nextP ((bl t).drop i) i).1.j) false (nextP ((bl t).drop i) i).1.j) (if WordK (nextP ((bl t).drop i) i).1.k then (((nextP ((bl t).drop i) i).1.j:Nat):Int) else -1)
    omega
  ·rw [if_pos (drop_end hi)];exact Nat.zero_le _
theorem toks_len:(toksOf t).1.length≤t.size:=by
 have:=toksP_len (t:=t) (t.size+1) (blankP (bl t) false 0) (-1)
 unfold toksOf
 omega
theorem next_zero {l:List Nat} {i:Nat} (h:(nextP l i).1.k=0):(nextP l i).1=Tk0:=by
 cases l with
 | nil=>rfl
 | cons c r=>
  rw [nextP] at h ⊢
  split at h
  ·cases h
  split at h
  ·rename_i h2;exact absurd h h2
  split at h
  ·split at h <;> cases h
  split at h
  ·split at h <;> cases h
  ·rename_i h1 h2 h3 h4
   rw [if_neg h1,if_neg h2,if_neg h3,if_neg h4]
   unfold wordT at h ⊢
   dsimp only at h ⊢
   split
   ·rfl
   ·rename_i h5;rw [if_neg h5] at h;exact absurd h h5
theorem toksP_open:∀ (n:Nat) (l:List Nat) (i:Nat) (jt:Int),(toksP n l i jt).2.1.k=0→(toksP n l i jt).2.1=Tk0
 | 0,_,_,_,_=>rfl
 | n+1,l,i,jt,h=>by
  rw [toksP] at h ⊢
  split
  ·rfl
  ·rename_i hl
   rw [if_neg hl] at h
   dsimp only at h ⊢
   split
   ·rfl
   ·rename_i h1
    rw [if_neg h1] at h
    split
    ·rename_i h2
     rw [if_pos h2] at h
     split
     ·rename_i h3;exact next_zero h3
     ·rename_i h3;rw [if_neg h3] at h;exact absurd h h3
    ·rename_i h2
     rw [if_neg h2] at h
     exact toksP_open n _ _ _ h
theorem toks_open:(toksOf t).2.1.k=0→(toksOf t).2.1=Tk0:=fun h=>toksP_open _ _ _ _ h
end
end Go.Proofs.YtljfgmedbjlkaaaGreat
