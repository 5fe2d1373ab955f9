/- A lean reckoner for closed runs: append stands. Over any program. -/
import Derived.Test.YtljfgmedbjlkaaaGreatLkN
import Derived.MapKept
import Derived.Lib.ConvBytes
import Derived.Laws.BytesArg
namespace Go.Lk
open Go.Eng Go.RowKit
section
variable {ρ:Ren} {Pr:Program} {m:Nat} {w0:Base} {w:World} {ty t t':TypeId} {σ:T V} {τ:Nat→Value} {h:T Blk} {n:P} {run:Run}
theorem Rh.alias (H:Rh w0 ρ h n w) {b:P} {B0 B:Blk} {L L':Loc} {w':World} {o:Obj} (hb:T.get b h=some B0) (hL:ρ b=some L) (hp:Pt w w' L.c o) (hc:L'.c=L.c) (hB:Rb (ρ.put n L') L' (some o) B):Rh w0 (ρ.put n L') (T.put (some B) n (T.put none b h)) n.succ w':=by
 have hfree:=H.free
 have hsafe:=H.safe b B0 L hb hL
 have hnew:=H.new b L hL
 have other:∀ x X M,T.get x (T.put none b h)=some X→ρ x=some M→M.c≠L.c:=fun x X M hx hM hcc=>by
  rw [T.get_put] at hx
  split at hx
  ·cases hx
  ·rename_i hne
   exact hne (H.apart x b X B0 M L hx hb hM hL hcc)
 have old:∀ x X,x≠n→T.get x (T.put (some B) n (T.put none b h))=some X→T.get x (T.put none b h)=some X:=fun x X hne hx=>by rwa [T.get_put_ne _ hne] at hx
 have rold:∀ x M,x≠n→(ρ.put n L') x=some M→ρ x=some M:=fun x M hne hM=>by simpa only [Ren.put,if_neg hne] using hM
 refine ⟨hp.below H.old hnew.1,fun c o' hk=>?_,fun x X M hx hM=>?_,fun x M hM=>?_,fun x X M hx hM=>?_,fun x y X Y M N hx hy hM hN hcc=>?_⟩
 ·have hne:c≠L.c:=fun e=>by subst e;rw [hsafe] at hk;cases hk
  rw [hp.old hne];exact H.kept c o' hk
 ·by_cases e:x=n
  ·subst e
   simp only [Ren.put,if_true] at hM;cases hM
   rw [hc];exact hsafe
  ·have h1:=old x X e hx
   rw [T.get_put] at h1
   split at h1
   ·cases h1
   ·exact H.safe x X M h1 (rold x M e hM)
 ·rw [hp.size]
  by_cases e:x=n
  ·subst e
   simp only [Ren.put,if_true] at hM;cases hM
   rw [hc,P.num_succ];exact ⟨hnew.1,hnew.2.1,by omega⟩
  ·have:=H.new x M (rold x M e hM)
   rw [P.num_succ];exact ⟨this.1,this.2.1,by omega⟩
 ·by_cases e:x=n
  ·subst e
   rw [T.get_put_same] at hx;cases hx
   simp only [Ren.put,if_true] at hM;cases hM
   rw [hc,hp.new];exact hB
  ·have h1:=old x X e hx
   have h2:=rold x M e hM
   rw [hp.old (other x X M h1 h2)]
   rw [T.get_put] at h1
   split at h1
   ·cases h1
   ·exact (H.live x X M h1 h2).mono (Ren.le_put hfree)
 ·by_cases e1:x=n <;> by_cases e2:y=n
  ·rw [e1,e2]
  ·subst e1
   simp only [Ren.put,if_true] at hM;cases hM
   exact absurd (hcc.symm.trans hc) (other y Y N (old y Y e2 hy) (rold y N e2 hN))
  ·subst e2
   simp only [Ren.put,if_true] at hN;cases hN
   exact absurd (hcc.trans hc) (other x X M (old x X e1 hx) (rold x M e1 hM))
  ·have h1:=old x X e1 hx
   have h2:=old y Y e2 hy
   rw [T.get_put] at h1 h2
   split at h1
   ·cases h1
   ·split at h2
    ·cases h2
    ·exact H.apart x y X Y M N h1 h2 (rold x M e1 hM) (rold y N e2 hN) hcc
variable {β:Type} {r:β} {k:V→T Blk→P→Option β} {e u:TypeId} {i:TypeInfo} {z:Value} {S X:Value} {mm:Nat} {news:List Value} {new:List (List V)} {s:V}
theorem sliceRowsT_some {β:Type} {e:TypeId} {kk:Nat} {b:P} {i len:Nat} {f:List (List V)→Option β} {r:β} (ev:sliceRowsT e kk b i len h f=some r) :
  ∃ op rs old,T.get b h=some (.rows e kk op rs)∧len≤(rs.drop i).length∧old=(rs.drop i).take len∧f old=some r:=by
 unfold sliceRowsT at ev
 simp only [on_some,onRows_some,ifT_some] at ev
 obtain ⟨B,hB,t',k,op,rs,rfl,he,hk,old,ht,ev⟩:=ev
 have:=Nat.eq_of_beq_eq_true hk
 subst this
 have:=Nat.eq_of_beq_eq_true he
 subst this
 rw [dropL_eq] at ht
 obtain ⟨h1,h2⟩:=takeL_spec _ _ _ ht
 exact ⟨op,rs,old,hB,h1,h2,ev⟩
theorem appendR_sound (H:Rh w0 ρ h n w) (ht:Pr.underlying t=some (.slice e)) (hu:∃ d,Pr.underlying u=some d∧∀ k,d≠.int k) (hi:Pr.info? e=some i) (hz:i.zero=some z) (hzs:z.cells.size=i.size) (hpos:0<i.size) (hby:0<i.bytes)
  (hs:Rv ρ s S) (hx:AppSrc Pr X mm i.size news w) (hnv:Rvs ρ new.flatten news) (hnr:∀ r ∈ new,r.length=i.size) (hnl:new.length=mm) (hmm:0<mm) (ev:appendR e i.size i.bytes new mm s h n k=some r) :
  ∃ v w',(Builtin.append_ #[t,u] ty #[S,X]).run Pr w= .ok v w'∧Kx w0 ρ r k v w':=by
 have small:∀ q,q * i.bytes≤140737488355328→q≤140737488355328:=fun q hq=>Nat.le_trans (Nat.le_mul_of_pos_right q hby) hq
 unfold appendR at ev
 rw [onSl_some] at ev
 rcases ev with ⟨rfl,ev⟩ | ⟨b,j,len,c,rfl,ev⟩
 ·rw [ifT_some] at ev
  obtain ⟨h1,ev⟩:=ev
  have h1:mm * i.bytes≤140737488355328:=Nat.le_of_ble_eq_true h1
  simp only [Rv] at hs
  subst hs
  exact grow_sound H ht hu hi hz hzs hpos rfl (olds:=[]) (old:=[]) (run_firstCells_none w.drew i.size 0 0 0) (by simp) (by simp only [List.flatten_nil,Rvs]) (by simp) rfl hx hnv hnr hnl (by omega) (by simpa using h1) (by have:=small _ h1;omega) H (by omega) ev
 ·rw [ifT_some,flatL_eq] at ev
  obtain ⟨hones,ev⟩:=ev
  rw [ifT_some] at ev
  obtain ⟨h1,ev⟩:=ev
  have h1:(len+mm) * i.bytes≤140737488355328:=Nat.le_of_ble_eq_true h1
  have hsm:=small _ h1
  have hone:∀ u ∈ news,One u:=onesV_one hones hnv
  simp only [Rv] at hs
  obtain ⟨L,cc,p,hL,rfl,hc,hl,hfit⟩:=hs
  have flat:∀ (old:List (List V)) (t':TypeId) (op:Bool) (rs:List (List V)),T.get b h=some (.rows t' i.size op rs)→len≤(rs.drop j).length→old=(rs.drop j).take len→
    ∃ cs,cs.length=len * i.size∧Cells w.heap L.c ((L.o+p) * L.k) cs∧Rvs ρ old.flatten cs∧(∀ r ∈ old,r.length=i.size)∧old.length=len∧
     (Builtin.firstCells i.size len (.slice (some ⟨L.c,(L.o+p) * L.k,none⟩) len cc)).run Pr w.drew= .ok cs.toArray w.drew:=by
   intro old t' op rs hB hlen ho
   rcases Nat.eq_zero_or_pos len with rfl | hp
   ·subst ho
    have hk:=H.width hB hL
    obtain ⟨_,arr,ha,_⟩:=H.live b _ L hB hL
    exact ⟨[],by simp,⟨arr,t',_,ha,fun j hj=>absurd hj (by simp)⟩,by simp [Rvs],by simp,rfl,run_firstCells_some (P:=Pr) w.drew i.size 0 ⟨L.c,(L.o+p) * L.k,none⟩ 0 cc [] (by simp) (fun j v hv=>by simp at hv)⟩
   ·obtain rfl:=hc.pos hp
    obtain ⟨cs,q1,q2,q3,q4⟩:=H.flat hB hL len p old hlen ho (by simp only [List.length_drop] at hlen;omega)
    refine ⟨cs,q1,q2,q3,q4,by rw [ho,List.length_take];omega,run_firstCells_some (P:=Pr) w.drew i.size len _ len cc cs q1 fun q v hv=>?_⟩
    have hq:=(List.getElem?_eq_some_iff.1 hv).1
    rw [add_addr]
    have:=q2.cell q hq
    rw [← (List.getElem?_eq_some_iff.1 hv).2]
    exact this
  cases c with
  | none=>
   obtain ⟨op,rs,old,hB,hlen,ho,ev⟩:=sliceRowsT_some (β:=β) ev
   have hk:=H.width hB hL
   obtain ⟨cs,q1,q2,q3,q4,q5,q6⟩:=flat old e op rs hB hlen ho
   by_cases hroom:len+mm≤cc
   ·have hlive:=H.live b _ L hB hL
    obtain ⟨_,arr,ha,hsz,_⟩:=hlive
    have hblk:Go.Eng.Blk w.heap L.c arr.toList e:=by unfold Go.Eng.Blk;rw [ha]
    have hal:arr.toList.length=arr.size:=Array.length_toList
    have e1:(L.o+p) * L.k+len * i.size=(L.o+p+len) * L.k:=by rw [← hk,Nat.add_mul (L.o+p)]
    have e2:(L.o+p+len) * L.k+news.length≤(L.o+L.cap) * i.size:=by
     rw [hx.size,← hk,← Nat.add_mul];exact Nat.mul_le_mul_right _ (by omega)
    obtain ⟨w',hp,hrun⟩:=room_run (ty:=ty) ht hu hi (off:=(L.o+p) * L.k) hx hone hroom hblk (by rw [e1,hal,hsz];exact e2)
    refine ⟨_,w',hrun,?_⟩
    unfold growX newB at ev
    rw [appL_eq] at ev
    have hfitA:(L.o+p) * L.k+len * i.size+news.length≤arr.toList.length:=by rw [e1,hal,hsz];exact e2
    have hRb:Rb ρ ⟨L.c,L.o+p,cc,L.k⟩ (some (.cells (splice arr.toList ((L.o+p) * L.k+len * i.size) news).toArray e (0,0))) (.rows e i.size true (old++new)):=by
     refine Rb.known (cs:=cs++news) hk ?_ (by rw [List.length_append,q5,hnl];exact hroom) (fun r hr=>?_) (by rw [List.flatten_append];exact q3.append hnv) fun q hq=>?_
     ·rw [List.size_toArray,splice_length hfitA,hal,hsz]
      congr 1;have:=hc.full (by omega);show L.o+L.cap=(L.o+p)+cc;omega
     ·rcases List.mem_append.1 hr with g | g
      ·exact q4 r g
      ·exact hnr r g
     ·rw [List.getElem?_toArray]
      unfold splice
      rw [splice_get hfitA]
      show (if (L.o+p) * L.k+len * i.size≤(L.o+p) * i.size+q∧(L.o+p) * i.size+q<(L.o+p) * L.k+len * i.size+news.length then news[(L.o+p) * i.size+q-((L.o+p) * L.k+len * i.size)]? else _)=_
      by_cases hqc:q<cs.length
      ·rw [if_neg (by rw [← hk] at q1 ⊢;omega),List.getElem_append_left hqc,Array.getElem?_toList]
       obtain ⟨arr',_,_,ha',hcell⟩:=q2
       rw [ha] at ha';cases ha'
       have:=hcell q hqc
       rw [← hk];exact this
      ·have hqn:q-cs.length<news.length:=by simp only [List.length_append] at hq;omega
       rw [if_pos (by rw [← hk] at q1 ⊢;constructor <;> omega),List.getElem_append_right (by omega)]
       have:(L.o+p) * i.size+q-((L.o+p) * L.k+len * i.size)=q-cs.length:=by rw [← hk] at q1 ⊢;omega
       rw [this]
       exact List.getElem?_eq_getElem hqn
    refine ⟨ρ.put n ⟨L.c,L.o+p,cc,L.k⟩,_,_,_,Ren.le_put H.free,H.alias hB hL hp rfl (hRb.mono (Ren.le_put H.free)),?_,ev⟩
    simp only [Rv]
    exact ⟨_,cc,0,Ren.put_same,by simp,PL.mkO (.inr (by decide)),hroom,by simp⟩
   ·exact grow_sound H ht hu hi hz hzs hpos rfl q6 q1 q3 q4 q5 hx hnv hnr hnl (by omega) h1 hsm (H.drop b) rfl ev
  | some c=>
   obtain ⟨rfl,rfl⟩:=hc.capd
   rw [if_some] at ev
   rcases ev with ⟨hroom,ev⟩ | ⟨hroom,ev⟩
   ·have hroom:len+mm≤cc:=Nat.le_of_ble_eq_true hroom
    obtain ⟨t',op,rs,old,hB,hlen,ho,ev⟩:=sliceRows_some (β:=β) ev
    have hk:=H.width hB hL
    unfold writeRows at ev
    simp only [on_some,onRows_some] at ev
    obtain ⟨h',⟨B,hB',t2,k2,op2,rs2,rfl,rs',hov,hh⟩,ev⟩:=ev
    cases hh
    rw [hB] at hB'
    cases hB'
    have hlive:=H.live b _ L hB hL
    obtain ⟨_,arr,ha,hsz,_⟩:=hlive
    have hlive:=H.live b _ L hB hL
    rw [ha] at hlive
    obtain ⟨g1,g2⟩:=Rb.writeRows hlive hov hnv hnr
    have hblk:Go.Eng.Blk w.heap L.c arr.toList t':=by unfold Go.Eng.Blk;rw [ha]
    have e1:(L.o+p) * L.k+len * i.size=(L.o+(p+len)) * L.k:=by rw [← hk,← Nat.add_mul,Nat.add_assoc]
    obtain ⟨w',hp,hrun⟩:=room_run (ty:=ty) ht hu hi (off:=(L.o+p) * L.k) hx hone hroom hblk (by rw [e1];exact g1)
    rw [e1] at hp
    refine ⟨_,w',hrun,ρ,_,_,n,.refl _,H.turn hB hL hp g2,?_,ev⟩
    simp only [Rv]
    exact ⟨L,cc,p,hL,rfl,PL.mkC,hroom,hfit⟩
   ·have hroom:¬ len+mm≤cc:=fun h'=>by have h2:Nat.ble (len+mm) cc=true:=Nat.ble_eq_true_of_le h';have h3:Nat.ble (len+mm) cc=false:=hroom;rw [h2] at h3;cases h3
    obtain ⟨t',op,rs,old,hB,hlen,ho,ev⟩:=sliceRows_some (β:=β) ev
    obtain ⟨cs,q1,q2,q3,q4,q5,q6⟩:=flat old t' op rs hB hlen ho
    exact grow_sound H ht hu hi hz hzs hpos rfl q6 q1 q3 q4 q5 hx hnv hnr hnl (by omega) h1 hsm H rfl ev
end
end Go.Lk
namespace Go.Lk
open Go.Eng Go.RowKit
theorem foldl_put (off:Nat):∀ (l:List Value) (k:Nat) (arr:Array Value),off+k+l.length≤arr.size→
  ((l.zipIdx k).foldl (fun cs (c,j)=>cs.setIfInBounds (off+j) c) arr).toList=arr.toList.take (off+k)++l++arr.toList.drop (off+k+l.length)
 | [],k,arr,_=>by simp
 | v::l,k,arr,h=>by
  simp only [List.length_cons] at h
  rw [List.zipIdx_cons,List.foldl_cons,foldl_put off l (k+1) _ (by simp;omega)]
  have hlt:off+k<arr.toList.length:=by rw [Array.length_toList];omega
  rw [Array.toList_setIfInBounds]
  have e1:List.take (off+(k+1)) (arr.toList.set (off+k) v)=List.take (off+k) arr.toList++[v]:=by
   rw [← Nat.add_assoc,List.take_succ_eq_append_getElem (by rw [List.length_set];exact hlt),List.take_set_of_le (Nat.le_refl _)]
   simp
  have e2:List.drop (off+(k+1)+l.length) (arr.toList.set (off+k) v)=List.drop (off+k+(l.length+1)) arr.toList:=by
   rw [List.drop_set_of_lt (by omega)];congr 1;omega
  rw [e1,e2]
  simp
section
variable {ρ:Ren} {Pr:Program} {m:Nat} {w0:Base} {w:World} {ty t t':TypeId} {σ:T V} {τ:Nat→Value} {h:T Blk} {n:P} {run:Run}
theorem fillQ_sound (f:Fr ρ m σ τ) {place:Nat→Option (Nat × Nat)}:∀ (parts:List (Nat × Operand)) (l l':List V) (arr:Array Value),fillQ place parts σ l=some l'→Rvs ρ l arr.toList→
  ∃ arr',Instr.fill place arr (parts.map fun (i,x)=>(i,ev m τ x))=some arr'∧Rvs ρ l' arr'.toList∧l'.length=l.length
 | [],l,l',arr,e,hv=>by
  have e:some l=some l':=e
  cases e
  exact ⟨arr,rfl,hv,rfl⟩
 | (i,x)::parts,l,l',arr,e,hv=>by
  replace e:on (place i) (fun os=>Prod.rec (fun o s=>on (evO x σ) (V.onCells fun c=>Bool.rec none (on (overAt c o l) fun l'=>fillQ place parts σ l') (Nat.beq (lenL c) s))) os)=some l':=e
  rw [on_some] at e
  obtain ⟨⟨o,s⟩,hp,e⟩:=e
  replace e:on (evO x σ) (V.onCells fun c=>Bool.rec none (on (overAt c o l) fun l'=>fillQ place parts σ l') (Nat.beq (lenL c) s))=some l':=e
  simp only [on_some,onCells_some,ifT_some,lenL_eq] at e
  obtain ⟨v,hx,ht,hs,l1,ho,e⟩:=e
  have hs:=Nat.eq_of_beq_eq_true hs
  have hc:=cellsV_rel (evO_sound f hx) ht
  have hcl:=hc.length
  obtain ⟨h1,h2⟩:=overAt_spec _ _ _ _ ho
  have hvl:=hv.length
  rw [Array.length_toList] at hvl hcl
  have hsz:(ev m τ x).cells.size=s:=by omega
  have hfold:=foldl_put o (ev m τ x).cells.toList 0 arr (by rw [Array.length_toList];omega)
  simp only [Nat.add_zero,Array.length_toList] at hfold
  have hv1:Rvs ρ l1 ((ev m τ x).cells.zipIdx.foldl (fun cs (c,j)=>cs.setIfInBounds (o+j) c) arr).toList:=by
   rw [← Array.foldl_toList,Array.toList_zipIdx,hfold,h2]
   have e1:(cellsV v).length=(ev m τ x).cells.size:=by omega
   rw [e1]
   exact ((hv.split o).1.append hc).append (hv.split _).2
  obtain ⟨arr',q1,q2,q3⟩:=fillQ_sound f parts l1 l' _ e hv1
  refine ⟨arr',?_,q2,by rw [q3,h2];simp;omega⟩
  simp only [List.map_cons,Instr.fill,hp]
  rw [if_neg (by simp only [Bool.or_eq_true,decide_eq_true_eq,not_or];omega)]
  exact q1
theorem s_build (f:Fr ρ m σ τ) {parts:Array (Nat × Operand)} {v:V} (e:buildQ Pr t parts.toList σ=some v):∃ u,Ex Pr (ev m τ) w (.build t parts) ty u∧Rv ρ v u:=by
 unfold buildQ at e
 cases hpl:placeT Pr t with
 | none=>rw [hpl] at e;cases e
 | some pl=>
 cases hz:zcT Pr t with
 | none=>rw [hpl,hz] at e;cases e
 | some z=>
  rw [hpl,hz] at e
  replace e:on (fillQ pl parts.toList σ z) (fun l=>some (V.agg l))=some v:=e
  rw [on_some] at e
  obtain ⟨l,hl,e⟩:=e
  cases e
  unfold zcT at hz
  rw [on_some] at hz
  obtain ⟨zv,hzv,hz⟩:=hz
  rw [onCells_some] at hz
  obtain ⟨ht,hz⟩:=hz
  cases hz
  unfold zeroT at hzv
  cases hi:Pr.info? t with
  | none=>rw [hi] at hzv;cases hzv
  | some it=>
   rw [hi] at hzv
   cases hzz:it.zero with
   | none=>simp [hzz] at hzv
   | some zr=>
    simp [hzz] at hzv
    have hzc:=cellsV_rel ((ofVal_sound ρ 600).1 _ _ hzv) ht
    obtain ⟨arr',q1,q2,_⟩:=fillQ_sound f parts.toList _ l zr.cells hl hzc
    have hb:Pr.built t (parts.map fun (i,x)=>(i,ev m τ x)).toList=some arr':=by
     rw [Array.toList_map]
     unfold Program.built
     rw [hi]
     unfold placeT at hpl
     cases hu:Pr.underlying t with
     | none=>rw [hu] at hpl;cases hpl
     | some d=>
      rw [hu] at hpl
      cases d <;> simp only at hpl <;> first | (cases hpl;done) | skip
      case array k e=>
       cases hie:Pr.info? e with
       | none=>simp [hie] at hpl
       | some ie=>
        simp [hie] at hpl
        subst hpl
        simp only [hzz,hie]
        exact q1
      case struct fields=>
       cases hp:fields.toList.mapM (fun f=>(Pr.info? f.type).map fun i=>(f.offset,i.size)) with
       | none=>simp [hp] at hpl
       | some places=>
        simp [hp] at hpl
        subst hpl
        simp only [hzz,hp]
        have:(fun x:Nat=>places.toArray[x]?)=fun i:Nat=>places[i]? :=by funext i;simp
        rw [this]
        exact q1
    exact ⟨.agg arr',x_build fun w=>run_build w t _ arr' hb,by simp only [Rv];exact ⟨_,rfl,q2⟩⟩
theorem elZ_spec {e:TypeId} {a:Nat × List V} (h:elZ Pr e=some a):∃ i z,Pr.info? e=some i∧i.zero=some z∧i.size=a.1∧0<a.1∧a.2.length=a.1∧∀ ρ:Ren,Rvs ρ a.2 z.cells.toList:=by
 unfold elZ at h
 split at h
 ·rename_i i z hi hz
  split at h
  ·rename_i hc
   cases h
   rw [lenL_eq] at hc
   unfold zcT at hz
   rw [on_some] at hz
   obtain ⟨zv,hzv,hz⟩:=hz
   rw [onCells_some] at hz
   obtain ⟨ht,hz⟩:=hz
   cases hz
   unfold zeroT at hzv
   rw [hi] at hzv
   cases hzz:i.zero with
   | none=>simp [hzz] at hzv
   | some zr=>
    simp [hzz] at hzv
    exact ⟨i,zr,hi,hzz,rfl,hc.2,hc.1,fun ρ=>cellsV_rel ((ofVal_sound ρ 600).1 _ _ hzv) ht⟩
  ·cases h
 ·cases h
theorem sliceB_spec {a:TypeId × Nat × List V} (h:sliceB Pr t=some a):Pr.underlying t=some (.slice a.1)∧elZ Pr a.1=some a.2:=by
 unfold sliceB elemT at h
 split at h
 ·rename_i e he
  split at he
  ·rename_i hu
   cases he
   cases hk:elZ Pr e with
   | none=>simp [hk] at h
   | some k=>simp [hk] at h;subst h;exact ⟨hu,hk⟩
  ·cases he
 ·cases h
theorem Rvs.repeat {l:List V} {xs:List Value} (h:Rvs ρ l xs):∀ n,Rvs ρ (List.replicate n l).flatten (List.replicate n xs).flatten
 | 0=>by simp only [List.replicate_zero,List.flatten_nil,Rvs]
 | n+1=>by rw [List.replicate_succ,List.replicate_succ,List.flatten_cons,List.flatten_cons];exact h.append (Rvs.repeat h n)
theorem rowsL_spec {k:Nat}:∀ (n:Nat) (l:List V) (rs:List (List V)),rowsL k n l=some rs→l.length=n * k→rs.flatten=l∧(∀ r ∈ rs,r.length=k)∧rs.length=n
 | 0,l,rs,e,hl=>by
  have e:some []=some rs:=e
  cases e
  have:l=[]:=List.eq_nil_of_length_eq_zero (by simpa using hl)
  subst this;exact ⟨rfl,by simp,rfl⟩
 | n+1,l,rs,e,hl=>by
  replace e:on (takeL k l) (fun r=>on (rowsL k n (dropL k l)) fun m=>some (r::m))=some rs:=e
  simp only [on_some,dropL_eq] at e
  obtain ⟨r,hr,m',hm,e⟩:=e
  cases e
  obtain ⟨h1,rfl⟩:=takeL_spec _ _ _ hr
  obtain ⟨q1,q2,q3⟩:=rowsL_spec n _ _ hm (by rw [List.length_drop,hl,Nat.add_mul];omega)
  refine ⟨by rw [List.flatten_cons,q1,List.take_append_drop],fun r hr=>?_,by simp [q3]⟩
  rcases List.mem_cons.1 hr with rfl | hr
  ·rw [List.length_take];omega
  ·exact q2 r hr
variable {β:Type} {r:β} {k:V→T Blk→P→Option β}
theorem new_rows (H:Rh w0 ρ h n w) {kk:Nat} {rs:List (List V)} {e:TypeId} {arr:Array Value} (hr:∀ r ∈ rs,r.length=kk) (hv:Rvs ρ rs.flatten arr.toList) {w':World} (ha:Al w w' (.cells arr e)) {len:Nat} (hlen:len≤rs.length) (ev:newB (.rows e kk false rs) (.sl n 0 len (some rs.length)) h n k=some r) :
  Kx w0 ρ r k (.slice (some ⟨w.heap.size,0,none⟩) len rs.length) w':=by
 refine ⟨_,_,_,_,Ren.le_put H.free,H.news H.free hr hv ha,?_,ev⟩
 simp only [Rv]
 exact ⟨_,rs.length,0,Ren.put_same,by simp,PL.mkC,hlen,by simp⟩
theorem e_buildSlice' (H:Rh w0 ρ h n w) (f:Fr ρ m σ τ) {len:Nat} {parts:Array (Nat × Operand)} (ev:buildSliceX Pr t len parts.toList run σ h n k=some r):Eff Pr (Go.Eng.ev m τ) w (.buildSlice t len parts) ty (Kx w0 ρ r k):=by
 unfold buildSliceX at ev
 cases hB:sliceB Pr t with
 | none=>rw [hB] at ev;cases ev
 | some a=>
  obtain ⟨e,kk,z⟩:=a
  rw [hB] at ev
  by_cases hsmall:len * kk≤16777216
  ·simp only [hsmall,if_true] at ev
   simp only [on_some,flatL_eq,repL_eq] at ev
   obtain ⟨l,hl,rs,hrs,ev⟩:=ev
   obtain ⟨hu,hZ⟩:=sliceB_spec hB
   obtain ⟨i,zr,hi,hz,hk,hpos,hzl,hzv⟩:=elZ_spec hZ
   simp only at hu hi hk hpos hzl hzv
   subst hk
   have hzv:=hzv ρ
   have hzs:zr.cells.size=i.size:=by have:=hzv.length;rw [Array.length_toList] at this;omega
   have hzero:Rvs ρ (List.replicate len z).flatten (madeCells zr.cells (len * i.size)).toList:=by
    rw [madeCells_flat zr.cells len i.size hzs hpos];exact hzv.repeat len
   obtain ⟨arr',q1,q2,q3⟩:=fillQ_sound f parts.toList _ l _ hl hzero
   have hll:l.length=len * i.size:=by rw [q3,flatten_len (k:=i.size) _ (by intro r hr;rw [(List.mem_replicate.1 hr).2];exact hzl)];simp
   obtain ⟨g1,g2,g3⟩:=rowsL_spec len l rs hrs hll
   have hrun:∀ w,(Instr.buildSlice t len (parts.map fun (i,x)=>(i,Go.Eng.ev m τ x))).run Pr w= .ok (.slice (some ⟨w.heap.size,0,none⟩) len len) (w.alloc (.cells arr'.toList.toArray e)):=by
    intro w
    have hsm:¬ (2 ^ 24<len * i.size):=by omega
    have q1':Instr.fill (fun j=>some (j * i.size,i.size)) ((Array.range (len * i.size)).map (zr.cells[· % zr.cells.size]!)) (List.map (fun (p:Nat × Operand)=>(p.1,Go.Eng.ev m τ p.2)) parts.toList)=some arr':=q1
    by_cases h0:len * i.size=0
    ·rw [h0] at q1'
     have q1'':Instr.fill (fun j=>some (j * i.size,i.size)) #[] (List.map (fun (p:Nat × Operand)=>(p.1,Go.Eng.ev m τ p.2)) parts.toList)=some arr':=by simpa [Array.range_zero'] using q1'
     simp [Instr.buildSlice,run_underlying hu,sizeOf,typeInfo,hi,h0,newRow,newObj,Sem.run,q1'',Array.range_zero']
    ·simp [Instr.buildSlice,run_underlying hu,sizeOf,typeInfo,zeroValue,hi,hz,h0,hsm,newRow,newObj,Sem.run,q1']
   refine e_buildSlice (e:=e) (cs:=arr'.toList) hrun fun w' ha=>?_
   rw [← g3] at ev ⊢
   exact new_rows H g2 (arr:=arr'.toList.toArray) (by rw [g1];simpa using q2) ha (Nat.le_refl _) ev
  ·simp only [hsmall,if_false] at ev
   cases ev
theorem e_makeSlice' (H:Rh w0 ρ h n w) (f:Fr ρ m σ τ) {x y:Operand} (ev:makeSliceX Pr t x y run σ h n k=some r):Eff Pr (Go.Eng.ev m τ) w (.makeSlice t x y) ty (Kx w0 ρ r k):=by
 unfold makeSliceX at ev
 cases hB:sliceB Pr t with
 | none=>rw [hB] at ev;cases ev
 | some a=>
  obtain ⟨e,kk,z⟩:=a
  rw [hB] at ev
  simp only at ev
  simp only [on_some,onNat_some,ifT_some,repL_eq] at ev
  obtain ⟨_,hx,_,hy,kl,l,rfl,kc,c,rfl,h1,h2,h3,ev⟩:=ev
  have h1:=Nat.le_of_ble_eq_true h1
  have h2:=Nat.le_of_ble_eq_true h2
  have h3:Nat.mul (bytesT Pr e) c≤281474976710656:=Nat.le_of_ble_eq_true h3
  obtain ⟨hu,hZ⟩:=sliceB_spec hB
  obtain ⟨i,zr,hi,hz,hk,hpos,hzl,hzv⟩:=elZ_spec hZ
  simp only at hu hi hk hpos hzl hzv
  subst hk
  have hzv:=hzv ρ
  have hzs:zr.cells.size=i.size:=by have:=hzv.length;rw [Array.length_toList] at this;omega
  have hx':=evO_sound f hx
  have hy':=evO_sound f hy
  simp only [Rv] at hx' hy'
  have hby:bytesT Pr e=i.bytes:=by unfold bytesT;rw [hi]
  rw [hby] at h3
  have h3':(i.bytes:Int) * (c:Int)≤281474976710656:=by
   have:((i.bytes * c:Nat):Int)≤((281474976710656:Nat):Int):=Int.ofNat_le.2 h3
   rw [Int.natCast_mul] at this;exact this
  have hrun:=run_make (P:=Pr) w t e i zr hu hi hz kl kc (l:Int) (c:Int) (by omega) (by omega) h3' (by omega)
  simp only [Int.toNat_natCast] at hrun
  have hlen:(List.replicate c z).length=c:=by simp
  refine ⟨.slice (some ⟨w.heap.size,0,none⟩) l c,w.alloc (.cells (madeCells zr.cells (c * i.size)) e),?_,.inl fun _ _ _ _=>?_⟩
  rotate_left
  ·have hx2:Go.Eng.ev m τ x= .int kl (l:Int):=hx'
   have hy2:Go.Eng.ev m τ y= .int kc (c:Int):=hy'
   simp only [execOp,hx2,hy2,Sem.run_bind,hrun,Result.andThen_ok,Sem.run_pure]
  ·have:=new_rows H (kk:=i.size) (rs:=List.replicate c z) (e:=e) (arr:=madeCells zr.cells (c * i.size)) (fun r hr=>by rw [(List.mem_replicate.1 hr).2];exact hzl) (by rw [madeCells_flat zr.cells c i.size hzs hpos];exact hzv.repeat c) (w':=w.alloc (.cells (madeCells zr.cells (c * i.size)) e)) ⟨rfl⟩ (len:=l) (by rw [hlen];exact h1) (by rw [hlen];exact ev)
   rwa [hlen] at this
end
end Go.Lk
namespace Go.Lk
open Go.Eng Go.RowKit
structure KL (Pr:Program) (k:TypeId) (ok:Value→Prop):Prop where
 check:∀ (w:World) (em:Bool) (v:Value),ok v→(Instr.checkKey em 10000 k v).run Pr w= .ok () w
 find:∀ (w:World) (x:Value),ok x→∀ es:List MapEntry,(∀ e ∈ es,ok e.key)→((Instr.findKey k x es).run Pr w= .ok none w∧∀ e ∈ es,e.key≠x)∨∃ j e,(Instr.findKey k x es).run Pr w= .ok (some (j,e.val)) w∧es[j]?=some e∧e.key=x
 stays:∀ (w:World) (v:Value),ok v→(Instr.keyThatStays v v).run Pr w= .ok v w
theorem findNow_spec {kd:TypeDesc} {ok:Value→Prop} (hs:∀ x y,ok x→ok y→∃ b,Instr.sameNow kd x y=some b∧(b=true↔y=x)) {x:Value} (hx:ok x):∀ (es:List MapEntry) (i:Nat),(∀ e ∈ es,ok e.key)→
  (Instr.findNow kd x es i=some none∧∀ e ∈ es,e.key≠x)∨∃ j e,Instr.findNow kd x es i=some (some (i+j,e.val))∧es[j]?=some e∧e.key=x
 | [],i,_=>.inl ⟨rfl,by simp⟩
 | e::es,i,h=>by
  obtain ⟨b,hb,hiff⟩:=hs x e.key hx (h e List.mem_cons_self)
  cases b with
  | true=>exact .inr ⟨0,e,by simp [Instr.findNow,hb],rfl,hiff.1 rfl⟩
  | false=>
   have hne:e.key≠x:=fun h'=>by have:=hiff.2 h';cases this
   rcases findNow_spec hs hx es (i+1) (fun e' he=>h e' (List.mem_cons_of_mem _ he)) with ⟨h1,h2⟩ | ⟨j,e',h1,h2,h3⟩
   ·refine .inl ⟨by simp [Instr.findNow,hb,h1],fun e' he=>?_⟩
    rcases List.mem_cons.1 he with rfl | he
    ·exact hne
    ·exact h2 e' he
   ·exact .inr ⟨j+1,e',by simp only [Instr.findNow,hb,h1];congr 3;omega,by simpa using h2,h3⟩
theorem KL.now {Pr:Program} {k:TypeId} {kd:TypeDesc} {ok:Value→Prop} (hu:Pr.underlying k=some kd) (hs:∀ x y,ok x→ok y→∃ b,Instr.sameNow kd x y=some b∧(b=true↔y=x))
  (hc:∀ (w:World) (em:Bool) (v:Value),ok v→(Instr.checkKey em (9999+1) k v).run Pr w= .ok () w) (hst:∀ v,ok v→Instr.sameBits (9999+1) v v=true):KL Pr k ok where
 check:=hc
 find w x hx es hes:=by
  rcases findNow_spec hs hx es 0 hes with ⟨h1,h2⟩ | ⟨j,e,h1,h2,h3⟩
  ·exact .inl ⟨by simp [Instr.findKey,run_underlying hu,h1],h2⟩
  ·exact .inr ⟨j,e,by simp [Instr.findKey,run_underlying hu,h1],h2,h3⟩
 stays w v hv:=by
  unfold Instr.keyThatStays
  have h:Instr.sameBits 10000 v v=true:=hst v hv
  rw [h];simp
theorem ck_string {Pr:Program} {k:TypeId} (hu:Pr.underlying k=some .string) (d:Nat) (w:World) (em:Bool) (s:ByteArray):(Instr.checkKey em (d+1) k (.string s)).run Pr w= .ok () w:=by simp [Instr.checkKey,run_underlying hu]
theorem ck_bool {Pr:Program} {k:TypeId} (hu:Pr.underlying k=some .bool) (d:Nat) (w:World) (em:Bool) (s:Bool):(Instr.checkKey em (d+1) k (.bool s)).run Pr w= .ok () w:=by simp [Instr.checkKey,run_underlying hu]
theorem ck_int {Pr:Program} {k:TypeId} {q:IntKind} (hu:Pr.underlying k=some (.int q)) (d:Nat) (w:World) (em:Bool) (s:Int):(Instr.checkKey em (d+1) k (.int q s)).run Pr w= .ok () w:=by simp [Instr.checkKey,run_underlying hu]
theorem kl_string {Pr:Program} {k:TypeId} (hu:Pr.underlying k=some .string):KL Pr k (fun v=>∃ s,v= .string s):=
 KL.now hu (fun x y ⟨s,hx⟩ ⟨s',hy⟩=>by subst hx hy;exact ⟨s == s',rfl,by rw [Go.MapKept.bytes_beq];constructor <;> intro h <;> (first | (subst h;rfl) | (cases h;rfl))⟩)
  (fun w em v ⟨s,hv⟩=>by subst hv;exact ck_string hu 9999 w em s) (fun v ⟨s,hv⟩=>by subst hv;simp only [Instr.sameBits];exact (Go.MapKept.bytes_beq s s).2 rfl)
theorem kl_bool {Pr:Program} {k:TypeId} (hu:Pr.underlying k=some .bool):KL Pr k (fun v=>∃ s,v= .bool s):=
 KL.now hu (fun x y ⟨s,hx⟩ ⟨s',hy⟩=>by subst hx hy;exact ⟨s == s',rfl,by rw [beq_iff_eq];constructor <;> intro h <;> (first | (subst h;rfl) | (cases h;rfl))⟩)
  (fun w em v ⟨s,hv⟩=>by subst hv;exact ck_bool hu 9999 w em s) (fun v ⟨s,hv⟩=>by subst hv;simp [Instr.sameBits])
theorem kl_int {Pr:Program} {k:TypeId} {q:IntKind} (hu:Pr.underlying k=some (.int q)):KL Pr k (fun v=>∃ a,v= .int q a):=
 KL.now hu (fun x y ⟨s,hx⟩ ⟨s',hy⟩=>by subst hx hy;exact ⟨s == s',by simp [Instr.sameNow],by rw [beq_iff_eq];constructor <;> intro h <;> (first | (subst h;rfl) | (cases h;rfl))⟩)
  (fun w em v ⟨s,hv⟩=>by subst hv;exact ck_int hu 9999 w em s) (fun v ⟨s,hv⟩=>by subst hv;simp [Instr.sameBits])
theorem kl_wide {Pr:Program} {k:TypeId} (hw:wideT Pr k=true):KL Pr k (fun v=>∃ l,keyOf Pr k v=some l):=by
 obtain ⟨h1,h2,h3,h4⟩:=wideT_spec hw
 have L:=deep_law (P:=Pr) (m:=40) (by omega) h1 h3 h4
 exact ⟨fun w em v ⟨l,h⟩=>L.check w em h,fun w x ⟨l,h⟩ es hes=>L.find w h es hes,fun w v ⟨l,h⟩=>L.stays w h⟩
theorem keyOf_agg {Pr:Program} {k:TypeId} (hw:wideT Pr k=true) {a:Array Value} (hf:(Value.agg a).formed Pr k=true) {ls:List Lit} (hl:Pr.keyLits (Pr.types.size+1) k a.toList=some ls):∃ l,keyOf Pr k (.agg a)=some l:=by
 obtain ⟨h1,h2,h3,h4⟩:=wideT_spec hw
 unfold keyOf
 cases hu:Pr.underlying k with
 | none=>rw [hu] at h4;cases h4
 | some d=>
  rw [hu] at h4
  cases d <;> simp only at h4 <;> first | (cases h4;done) | skip
  ·simp only [h2,hf,Bool.and_self,if_true,Value.cells,hl];exact ⟨_,rfl⟩
  ·simp only [h2,hf,Bool.and_self,if_true,Value.cells,hl];exact ⟨_,rfl⟩
theorem klOf (Pr:Program) (k:TypeId):∃ ok,KL Pr k ok∧∀ (v:V) (ρ:Ren) (x:Value),okK Pr k v=true→Rv ρ v x→ok x:=by
 have dead:(∀ v,okK Pr k v=false)→∃ ok,KL Pr k ok∧∀ (v:V) (ρ:Ren) (x:Value),okK Pr k v=true→Rv ρ v x→ok x:=fun h=>
  ⟨fun _=>False,⟨fun _ _ _ h=>h.elim,fun _ _ h=>h.elim,fun _ _ h=>h.elim⟩,fun v ρ x hv=>by rw [h v] at hv;cases hv⟩
 have wide:(∀ v,okK Pr k v=(Bool.rec (fun _=>false) (aggOk Pr k) (wideT Pr k):V→Bool) v)→∃ ok,KL Pr k ok∧∀ (v:V) (ρ:Ren) (x:Value),okK Pr k v=true→Rv ρ v x→ok x:=fun h=>by
  cases hw:wideT Pr k with
  | false=>exact dead fun v=>by rw [h v,hw]
  | true=>
   refine ⟨_,kl_wide hw,fun v ρ x hv hr=>?_⟩
   rw [h v,hw] at hv
   obtain ⟨a,rfl,hf,ls,hl⟩:=aggOk_sound hw hv hr
   exact keyOf_agg hw hf hl
 cases hu:Pr.underlying k with
 | none=>exact wide fun v=>by unfold okK;rw [hu]
 | some d=>
  cases d
  case string=>
   refine ⟨_,kl_string hu,fun v ρ x hv hr=>?_⟩
   unfold okK at hv;rw [hu] at hv
   cases v <;> first | (cases hv;done) | skip
   simp only [Rv] at hr
   obtain ⟨s,h,_⟩:=hr;exact ⟨s,h⟩
  case bool=>
   refine ⟨_,kl_bool hu,fun v ρ x hv hr=>?_⟩
   unfold okK at hv;rw [hu] at hv
   exact isB_spec hv hr
  case int q=>
   refine ⟨_,kl_int hu,fun v ρ x hv hr=>?_⟩
   unfold okK at hv;rw [hu] at hv
   obtain ⟨a,h,_⟩:=isI_spec hv hr
   exact ⟨a,h⟩
  all_goals exact wide fun v=>by unfold okK;rw [hu]
section
variable {ρ:Ren} {Pr:Program} {m:Nat} {w0:Base} {w:World} {ty t t':TypeId} {σ:T V} {τ:Nat→Value} {h:T Blk} {n:P} {run:Run} {β:Type} {r:β}
abbrev ER (ρ:Ren) (e:Ent) (x:MapEntry):Prop:=Rv ρ e.1 x.key∧Rv ρ e.2.1 x.val∧x.born=e.2.2
theorem allK_iff {ok:V→Bool} {es:List Ent}:allK ok es=true↔∀ e ∈ es,ok e.1=true:=by
 induction es with
 | nil=>exact ⟨fun _ i h=>(by cases h),fun _=>rfl⟩
 | cons x fs ih=>
  have:allK ok (x::fs)=(Bool.rec false (allK ok fs) (ok x.1):Bool):=rfl
  rw [this]
  cases h:ok x.1 with
  | false=>exact ⟨fun e=>(by cases e),fun e=>by rw [e x (List.mem_cons_self)] at h;cases h⟩
  | true=>
   rw [ih]
   exact ⟨fun e y hy=>by rcases List.mem_cons.1 hy with rfl | h';exact h;exact e y h',fun e y hy=>e y (List.mem_cons_of_mem _ hy)⟩
theorem All2.mem {α γ:Type} {R:α→γ→Prop} {l:List α} {m:List γ} (a:All2 R l m) {y:γ} (hy:y ∈ m):∃ x ∈ l,R x y:=by
 induction a with
 | nil=>cases hy
 | cons h _ ih=>
  rcases List.mem_cons.1 hy with rfl | hy
  ·exact ⟨_,List.mem_cons_self,h⟩
  ·obtain ⟨x,hx,hr⟩:=ih hy;exact ⟨x,List.mem_cons_of_mem _ hx,hr⟩
theorem findR_spec {k:V} {f:Nat→Ent→Option β} {g:Option β} {x:Value} (hk:Rv ρ k x):∀ (es:List Ent) (l:List MapEntry) (i:Nat),All2 (ER ρ) es l→findR k f g es i=some r→
  (g=some r∧∀ e ∈ l,e.key≠x)∨∃ j e y,es[j]?=some e∧l[j]?=some y∧ER ρ e y∧y.key=x∧f (i+j) e=some r
 | [],_,i,a,e=>by cases a;exact .inl ⟨e,by simp⟩
 | v::es,_,i,a,e=>by
  cases a with
  | cons h1 h2=>
   rename_i y l
   replace e:on (keyEq k v.1) (fun b=>Bool.rec (findR k f g es (Nat.succ i)) (f i v) b)=some r:=e
   rw [on_some] at e
   obtain ⟨b,hb,e⟩:=e
   have hiff:=keyEq_iff hb hk h1.1
   cases b with
   | true=>exact .inr ⟨0,v,y,rfl,rfl,h1,(hiff.1 rfl).symm,e⟩
   | false=>
    have hne:y.key≠x:=fun h'=>by have:=hiff.2 h'.symm;cases this
    rcases findR_spec hk es l (i+1) h2 e with ⟨q1,q2⟩ | ⟨j,e',y',q1,q2,q3,q4,q5⟩
    ·refine .inl ⟨q1,fun e' he=>?_⟩
     rcases List.mem_cons.1 he with rfl | he
     ·exact hne
     ·exact q2 e' he
    ·exact .inr ⟨j+1,e',y',by simpa using q1,by simpa using q2,q3,q4,by rw [show i+(j+1)=i+1+j by omega];exact q5⟩
theorem nodup_index {l:List MapEntry} (hn:(l.map (·.key)).Nodup) {i j:Nat} {a b:MapEntry} (ha:l[i]?=some a) (hb:l[j]?=some b) (he:a.key=b.key):i=j:=by
 have h1:(l.map (·.key))[i]?=some a.key:=by simp [ha]
 have h2:(l.map (·.key))[j]?=some b.key:=by simp [hb]
 have hi:=(List.getElem?_eq_some_iff.1 h1).1
 rw [← he,← h1] at h2
 exact (List.getElem?_inj hi hn).1 h2.symm
theorem findE_spec {kt:TypeId} {k:V} {f:Nat→Ent→Option β} {g:Option β} {x:Value} (hk:Rv ρ k x) {es:List Ent} {l:Array MapEntry} (ha:All2 (ER ρ) es l.toList) (hn:(l.toList.map (·.key)).Nodup) (e:findE (okK Pr kt) k f g es=some r) (w:World) :
  (∀ em,(Instr.checkKey em 10000 kt x).run Pr w= .ok () w)∧(Instr.keyThatStays x x).run Pr w= .ok x w∧
  (((Instr.findKey kt x l.toList).run Pr w= .ok none w∧g=some r∧∀ e ∈ l.toList,e.key≠x)∨∃ j e y,(Instr.findKey kt x l.toList).run Pr w= .ok (some (j,y.val)) w∧es[j]?=some e∧l[j]?=some y∧ER ρ e y∧y.key=x∧f j e=some r):=by
 unfold findE at e
 rw [ifT_some] at e
 obtain ⟨h1,e⟩:=e
 rw [ifT_some] at e
 obtain ⟨h2,e⟩:=e
 obtain ⟨ok,hK,hok⟩:=klOf Pr kt
 have hx:=hok k ρ x h1 hk
 have hes:∀ e ∈ l.toList,ok e.key:=fun y hy=>by
  obtain ⟨a,ha',hr⟩:=ha.mem hy
  exact hok a.1 ρ y.key (allK_iff.1 h2 a ha') hr.1
 refine ⟨fun em=>hK.check w em x hx,hK.stays w x hx,?_⟩
 rcases findR_spec hk es l.toList 0 ha e with ⟨q1,q2⟩ | ⟨j,e',y',q1,q2,q3,q4,q5⟩
 ·rcases hK.find w x hx l.toList hes with ⟨p1,_⟩ | ⟨j,y,_,p2,p3⟩
  ·exact .inl ⟨p1,q1,q2⟩
  ·exact absurd p3 (q2 y (List.mem_of_getElem? p2))
 ·rcases hK.find w x hx l.toList hes with ⟨_,p2⟩ | ⟨j2,y,p1,p2,p3⟩
  ·exact absurd q4 (p2 y' (List.mem_of_getElem? q2))
  ·have:=nodup_index hn q2 p2 (q4.trans p3.symm)
   subst this
   rw [q2] at p2;cases p2
   exact .inr ⟨j,e',y',p1,q1,by rw [← Array.getElem?_toList];exact q2,q3,q4,by simpa using q5⟩
end
end Go.Lk
namespace Go.Lk
open Go.Eng Go.RowKit
section
variable {ρ:Ren} {Pr:Program} {m:Nat} {w0:Base} {w:World} {ty t t':TypeId} {σ:T V} {τ:Nat→Value} {h:T Blk} {n:P} {run:Run} {β:Type} {r:β} {kc:V→T Blk→P→Option β}
theorem mapT (t:TypeId):(∃ k e,Pr.underlying t=some (.map k e)∧keyT Pr t=okK Pr k∧mapElemT Pr t=zeroT Pr e)∨keyT Pr t=fun _=>false:=by
 cases hu:Pr.underlying t with
 | none=>exact .inr (by unfold keyT;rw [hu])
 | some d=>
  cases d
  case map k e=>exact .inl ⟨k,e,rfl,by unfold keyT;rw [hu],by unfold mapElemT;rw [hu]⟩
  all_goals exact .inr (by unfold keyT;rw [hu])
theorem onMapB_some' {b:P} {f:List Ent→Nat→Option β} (e:onMapB h b f=some r):∃ es c,T.get b h=some (.map es c)∧f es c=some r:=by
 unfold onMapB at e
 simp only [on_some,onMapB_some] at e
 obtain ⟨B,hB,es,c,rfl,e⟩:=e
 exact ⟨es,c,hB,e⟩
theorem findE_dead {k:V} {f:Nat→Ent→Option β} {g:Option β} {es:List Ent}:findE (fun _=>false) k f g es≠some r:=by
 intro e;unfold findE at e;cases e
theorem s_lookup (H:Rh w0 ρ h n w) (f:Fr ρ m σ τ) {mo ko:Operand} {ok:Bool} {v:V} (e:(on (evO mo σ) fun m=>on (evO ko σ) fun k=>lookQ (keyT Pr t) (mapElemT Pr t) ok m k h)=some v):∃ u,Ex Pr (ev m τ) w (.lookup t mo ko ok) ty u∧Rv ρ v u:=by
 simp only [on_some] at e
 obtain ⟨mv,hm,kv,hk,e⟩:=e
 have hM:=evO_sound f hm
 have hK:=evO_sound f hk
 unfold lookQ at e
 rw [onMap_some] at e
 have miss:∀ (z:V) (zr:Value),Rv ρ z zr→some (Bool.rec z (.tup [z,.bool false]) ok:V)=some v→Rv ρ v (if ok then .tuple #[zr,.bool false] else zr):=fun z zr hz e=>by
  cases ok with
  | false=>cases e;exact hz
  | true=>cases e;simp only [if_true,Rv];exact ⟨_,rfl,by simp only [Rvs,Rv];exact ⟨_,_,rfl,hz,_,_,rfl,rfl,rfl⟩⟩
 rcases e with ⟨rfl,e⟩ | ⟨b,rfl,e⟩
 ·rw [ifT_some,on_some] at e
  obtain ⟨h1,z,hz,e⟩:=e
  rcases mapT (Pr:=Pr) t with ⟨k,el,hu,q1,q2⟩ | q
  ·rw [q1] at h1
   rw [q2] at hz
   obtain ⟨zr,hzr,hzv⟩:=zeroT_spec (ρ:=ρ) hz
   have hzr':=hzr w
   simp only [Rv] at hM
   obtain ⟨okk,hKL,hokk⟩:=klOf Pr k
   have hx:=hokk kv ρ _ h1 hK
   have hck:=hKL.check w true _ hx
   refine ⟨_,fun _ _ _ _=>?_,miss z zr hzv e⟩
   rcases hKL.find w _ hx [] (by simp) with ⟨p1,_⟩ | ⟨j,y,_,p2,_⟩
   ·simp [execOp,hM,Instr.lookup,run_underlying hu,hck,p1,hzr']
   ·simp at p2
  ·rw [q] at h1;cases h1
 ·obtain ⟨es,c,hB,e⟩:=onMapB_some' (r:=v) e
  simp only [Rv] at hM
  obtain ⟨L,hL,hM⟩:=hM
  obtain ⟨l,hl,ha,hn⟩:=H.live b _ L hB hL
  rcases mapT (Pr:=Pr) t with ⟨k,el,hu,q1,q2⟩ | q
  ·rw [q1] at e
   obtain ⟨hck,_,hf⟩:=findE_spec (r:=v) hK ha hn e w
   have hck:=hck l.isEmpty
   have hget:(getObj L.c).run Pr w= .ok (.map l c) w:=by simp [getObj,Sem.run,hl]
   rcases hf with ⟨p1,p2,_⟩ | ⟨j,e',y,p1,p2,p3,p4,p5,p6⟩
   ·rw [on_some] at p2
    obtain ⟨z,hz,p2⟩:=p2
    rw [q2] at hz
    obtain ⟨zr,hzr,hzv⟩:=zeroT_spec (ρ:=ρ) hz
    have hzr':=hzr w
    exact ⟨_,fun _ _ _ _=>by simp [execOp,hM,Instr.lookup,run_underlying hu,hget,hck,p1,hzr'],miss z zr hzv p2⟩
   ·refine ⟨if ok then .tuple #[y.val,.bool true] else y.val,fun _ _ _ _=>by simp [execOp,hM,Instr.lookup,run_underlying hu,hget,hck,p1],?_⟩
    cases ok with
    | false=>cases p6;exact p4.2.1
    | true=>cases p6;simp only [if_true,Rv];exact ⟨_,rfl,by simp only [Rvs,Rv];exact ⟨_,_,rfl,p4.2.1,_,_,rfl,rfl,rfl⟩⟩
  ·rw [q] at e;exact absurd e findE_dead
theorem setObj_run {b:Nat} {o o':Obj} (ho:w.heap[b]?=some o) (hnc:∀ c e f,o≠.cells c e f):(setObj b o').run Pr w= .ok () { w with heap:=w.heap.setIfInBounds b o' }:=by
 cases o <;> first | exact absurd rfl (hnc _ _ _) | simp [setObj,Sem.run,ho]
theorem All2.length_eq {α γ:Type} {R:α→γ→Prop} {l:List α} {m:List γ} (a:All2 R l m):l.length=m.length:=by
 induction a with
 | nil=>rfl
 | cons _ _ ih=>simp [ih]
theorem All2.append2 {α γ:Type} {R:α→γ→Prop} {l l':List α} {m m':List γ} (a:All2 R l m) (b:All2 R l' m'):All2 R (l++l') (m++m'):=by
 induction a with
 | nil=>exact b
 | cons h _ ih=>exact .cons h ih
theorem All2.set2 {α γ:Type} {R:α→γ→Prop} {l:List α} {m:List γ} (a:All2 R l m) {x:α} {y:γ} (h:R x y) (i:Nat):All2 R (l.set i x) (m.set i y):=by
 induction a generalizing i with
 | nil=>exact .nil
 | cons h1 t ih=>cases i with
  | zero=>exact .cons h t
  | succ i=>exact .cons h1 (ih i)
theorem map_turn (H:Rh w0 ρ h n w) {b:P} {L:Loc} {es es':List Ent} {c c':Nat} (hB:T.get b h=some (.map es c)) (hL:ρ b=some L) {l':Array MapEntry} (ha:All2 (ER ρ) es' l'.toList) (hn:(l'.toList.map (·.key)).Nodup) :
  Rh w0 ρ (mapPut b es' c' h) n { w with heap:=w.heap.setIfInBounds L.c (.map l' c') }:=by
 obtain ⟨l,hl,_⟩:=H.live b _ L hB hL
 exact H.turn hB hL ⟨(Array.getElem?_eq_some_iff.1 hl).1,rfl⟩ ⟨l',rfl,ha,hn⟩
theorem push_rel {es:List Ent} {l:Array MapEntry} {c:Nat} {k v:V} {K X:Value} (ha:All2 (ER ρ) es l.toList) (hn:(l.toList.map (·.key)).Nodup) (hk:Rv ρ k K) (hv:Rv ρ v X) (hno:∀ e ∈ l.toList,e.key≠K) :
  All2 (ER ρ) (appL es [(k,v,c)]) (l.push { key:=K,val:=X,born:=c }).toList∧((l.push { key:=K,val:=X,born:=c }).toList.map (·.key)).Nodup:=by
 rw [appL_eq,Array.toList_push]
 refine ⟨ha.append2 (.cons ⟨hk,hv,rfl⟩ .nil),?_⟩
 rw [List.map_append,List.nodup_append]
 refine ⟨hn,by simp,fun a ha b hb=>?_⟩
 simp only [List.map_cons,List.map_nil,List.mem_singleton] at hb
 subst hb
 obtain ⟨e,he,rfl⟩:=List.mem_map.1 ha
 exact hno e he
theorem set_rel {es es':List Ent} {l:Array MapEntry} {j:Nat} {e:Ent} {y:MapEntry} {v:V} {X:Value} (ha:All2 (ER ρ) es l.toList) (hn:(l.toList.map (·.key)).Nodup) (hy:l[j]?=some y) (hr:ER ρ e y) (hv:Rv ρ v X) (he:setL (e.1,v,e.2.2) j es=some es') :
  All2 (ER ρ) es' (l.modify j fun e=>{ e with key:=y.key,val:=X }).toList∧((l.modify j fun e=>{ e with key:=y.key,val:=X }).toList.map (·.key)).Nodup:=by
 rw [setL_eq] at he
 split at he
 ·cases he
  have hl:(l.modify j fun e=>{ e with key:=y.key,val:=X }).toList=l.toList.set j { y with val:=X }:=by
   apply List.ext_getElem?
   intro q
   rw [Array.getElem?_toList,Array.getElem?_modify,List.getElem?_set]
   by_cases hq:j=q
   ·subst hq
    rw [if_pos rfl,if_pos rfl,hy,if_pos (by rw [Array.length_toList];exact (Array.getElem?_eq_some_iff.1 hy).1)];rfl
   ·rw [if_neg hq,if_neg hq,Array.getElem?_toList]
  rw [hl]
  refine ⟨ha.set2 (x:=(e.1,v,e.2.2)) (y:={ y with val:=X }) ⟨hr.1,hv,hr.2.2⟩ j,?_⟩
  have:(l.toList.set j { y with val:=X }).map (·.key)=l.toList.map (·.key):=by
   rw [List.map_set]
   apply List.ext_getElem?
   intro q
   rw [List.getElem?_set]
   by_cases hq:j=q
   ·subst hq
    have hy':l.toList[j]?=some y:=by rw [Array.getElem?_toList];exact hy
    rw [if_pos rfl,List.getElem?_map,hy']
    split
    ·rfl
    ·rename_i hlt
     simp only [List.length_map] at hlt
     exact absurd (List.getElem?_eq_some_iff.1 hy').1 hlt
   ·rw [if_neg hq]
  rw [this];exact hn
 ·cases he
theorem updQ_run (H:Rh w0 ρ h n w) {mv kv vv:V} {M K X:Value} (hM:Rv ρ mv M) (hK:Rv ρ kv K) (hX:Rv ρ vv X) {h':T Blk} (e:updQ (keyT Pr t) mv kv vv h=some h'):∃ w',(Instr.mapUpdate t M K X).run Pr w= .ok () w'∧Rh w0 ρ h' n w':=by
 unfold updQ at e
 rw [onMap_some] at e
 rcases e with ⟨_,e⟩ | ⟨b,rfl,e⟩
 ·cases e
 ·obtain ⟨es,c,hB,e⟩:=onMapB_some' (r:=h') e
  simp only [Rv] at hM
  obtain ⟨L,hL,rfl⟩:=hM
  obtain ⟨l,hl,ha,hn⟩:=H.live b _ L hB hL
  rcases mapT (Pr:=Pr) t with ⟨k,el,hu,q1,q2⟩ | q
  ·rw [q1] at e
   obtain ⟨hck,hst,hf⟩:=findE_spec (r:=h') hK ha hn e w
   have hck:=hck false
   have hget:(getObj L.c).run Pr w= .ok (.map l c) w:=by simp [getObj,Sem.run,hl]
   rcases hf with ⟨p1,p2,p3⟩ | ⟨j,e',y,p1,p2,p3,p4,p5,p6⟩
   ·cases p2
    obtain ⟨g1,g2⟩:=push_rel (c:=c) ha hn hK hX p3
    exact ⟨_,by simp [Instr.mapUpdate,run_underlying hu,hget,hck,p1,setObj_run hl (by intros;simp)],map_turn H hB hL g1 g2⟩
   ·rw [on_some] at p6
    obtain ⟨es',hs,p6⟩:=p6
    cases p6
    obtain ⟨g1,g2⟩:=set_rel ha hn p3 p4 hX hs
    subst p5
    exact ⟨_,by simp [Instr.mapUpdate,run_underlying hu,hget,hck,p1,p3,hst,setObj_run hl (by intros;simp)],map_turn H hB hL g1 g2⟩
  ·rw [q] at e;exact absurd e findE_dead
theorem e_mapUpdate' (H:Rh w0 ρ h n w) (f:Fr ρ m σ τ) {mo ko vo:Operand} (e:(on (evO mo σ) fun m=>on (evO ko σ) fun k=>on (evO vo σ) fun v=>on (updQ (keyT Pr t) m k v h) fun h'=>kc undefV h' n)=some r) :
  Eff Pr (ev m τ) w (.mapUpdate t mo ko vo) ty (Kx w0 ρ r kc)∧Eff Pr (ev m τ) w (.insert t mo ko vo) ty (Kx w0 ρ r kc):=by
 simp only [on_some] at e
 obtain ⟨mv,hm,kv,hk,vv,hv,h',hu,e⟩:=e
 obtain ⟨w',hrun,H'⟩:=updQ_run H (evO_sound f hm) (evO_sound f hk) (evO_sound f hv) hu
 exact ⟨⟨undef,w',⟨ρ,undefV,h',n,.refl _,H',Rv_undef,e⟩,.inr ⟨rfl,fun _ _ _ _=>by simp [execOp,hrun]⟩⟩,⟨undef,w',⟨ρ,undefV,h',n,.refl _,H',Rv_undef,e⟩,.inr ⟨rfl,fun _ _ _ _=>by simp [execOp,hrun]⟩⟩⟩
theorem e_makeMap' (H:Rh w0 ρ h n w) (e:newB (.map [] 0) (.map n) h n kc=some r):Eff Pr (ev m τ) w (.makeMap t none) ty (Kx w0 ρ r kc):=by
 refine ⟨.map (some w.heap.size),w.alloc (.map #[] 0),?_,.inl fun _ _ _ _=>by simp [execOp,Instr.makeMap,newObj,Sem.run]⟩
 refine ⟨ρ.put n ⟨w.heap.size,0,0,0⟩,_,_,_,Ren.le_put H.free,H.grow ⟨rfl⟩ (.inr rfl) H.free (by rw [P.num_succ];omega) (by rw [P.num_succ];omega) rfl (B:=.map [] 0) ⟨#[],rfl,.nil,by simp⟩,?_,e⟩
 simp only [Rv]
 exact ⟨_,Ren.put_same,rfl⟩
end
end Go.Lk
namespace Go.Lk
open Go.Eng Go.RowKit
section
variable {ρ:Ren} {Pr:Program} {m:Nat} {w0:Base} {w:World} {ty t t':TypeId} {σ:T V} {τ:Nat→Value} {h:T Blk} {n:P} {run:Run} {β:Type} {r:β} {kc:V→T Blk→P→Option β}
theorem onStrI_some {f:List Nat→Nat→Option β} {B:Blk} (e:Blk.onStrI f B=some r):∃ l p,B= .strIter l p∧f l p=some r:=by
 cases B <;> first | exact ⟨_,_,rfl,e⟩ | cases e
theorem onMapI_some {f:Option P→Nat→List Nat→Nat→Option β} {B:Blk} (e:Blk.onMapI f B=some r):∃ m s q l,B= .mapIter m s q l∧f m s q l=some r:=by
 cases B <;> first | exact ⟨_,_,_,_,rfl,e⟩ | cases e
theorem new_obj (H:Rh w0 ρ h n w) {B:Blk} {o:Obj} (hB:Rb ρ ⟨w.heap.size,0,0,0⟩ (some o) B) (e:newB B (.ptr n 0 0) h n kc=some r):Kx w0 ρ r kc (.pointer (some ⟨w.heap.size,0,none⟩)) (w.alloc o):=by
 refine ⟨ρ.put n ⟨w.heap.size,0,0,0⟩,_,_,_,Ren.le_put H.free,H.grow ⟨rfl⟩ (.inr rfl) H.free (by rw [P.num_succ];omega) (by rw [P.num_succ];omega) rfl (hB.mono (Ren.le_put H.free)),?_,e⟩
 simp only [Rv]
 exact ⟨_,Ren.put_same,by simp⟩
theorem e_range' (H:Rh w0 ρ h n w) (f:Fr ρ m σ τ) {x:Operand} (e:(on (evO x σ) fun v=>rangeOp Pr t v h n kc)=some r):Eff Pr (ev m τ) w (.range t x) ty (Kx w0 ρ r kc):=by
 rw [on_some] at e
 obtain ⟨v,hv,e⟩:=e
 have hx:=evO_sound f hv
 unfold rangeOp at e
 cases hu:Pr.underlying t with
 | none=>rw [hu] at e;cases e
 | some d=>
  rw [hu] at e
  cases d <;> first | (cases e;done) | skip
  ·replace e:V.onStr (fun l=>newB (.strIter l 0) (.ptr n 0 0) h n kc) v=some r:=e
   rw [onStr_some] at e
   obtain ⟨l,rfl,e⟩:=e
   simp only [Rv] at hx
   obtain ⟨s,hx,hl⟩:=hx
   refine ⟨_,_,new_obj H (B:=.strIter l 0) (o:=.stringIter s 0) ⟨rfl,s,rfl,by simpa using hl⟩ e,.inl fun _ _ _ _=>?_⟩
   simp [execOp,hx,Instr.range,run_underlying hu,newObj,Sem.run]
  ·replace e:V.onMap (newB (.mapIter none 0 [] 0) (.ptr n 0 0) h n kc) (fun b=>onMapB h b fun _ c=>newB (.mapIter (some b) c [] c) (.ptr n 0 0) h n kc) v=some r:=e
   rw [onMap_some] at e
   rcases e with ⟨rfl,e⟩ | ⟨b,rfl,e⟩
   ·simp only [Rv] at hx
    refine ⟨_,_,new_obj H (B:=.mapIter none 0 [] 0) (o:=.mapIter none 0 #[] 0) ⟨rfl,none,rfl,rfl⟩ e,.inl fun _ _ _ _=>?_⟩
    simp [execOp,hx,Instr.range,run_underlying hu,newObj,Sem.run]
   ·obtain ⟨es,c,hB,e⟩:=onMapB_some' e
    simp only [Rv] at hx
    obtain ⟨L,hL,hx⟩:=hx
    obtain ⟨l,hl,_⟩:=H.live b _ L hB hL
    refine ⟨_,_,new_obj H (B:=.mapIter (some b) c [] c) (o:=.mapIter (some L.c) c #[] c) ⟨rfl,some L.c,rfl,L,hL,rfl⟩ e,.inl fun _ _ _ _=>?_⟩
    simp [execOp,hx,Instr.range,run_underlying hu,newObj,getObj,hl,Sem.run]
theorem iter_at (f:Fr ρ m σ τ) {x:Operand} {b:P} {i:Nat} (hx:evO x σ=some (.ptr b i 0)) {L:Loc} (hL:ρ b=some L) (hk:L.k=0):ev m τ x= .pointer (some ⟨L.c,0,none⟩):=by
 have h:=evO_sound f hx
 simp only [Rv] at h
 obtain ⟨L',hL',h⟩:=h
 rw [hL] at hL'
 cases hL'
 rw [h,hk];simp
theorem decode_small {s:ByteArray} {p:Nat} (hp:p<s.size) (h:(s[p]).toNat<128):Utf8.decode s p=((s[p]).toNat,1):=by
 unfold Utf8.decode
 have:s.get! (p+0)=s[p]:=by simp [ByteArray.get!,hp];rfl
 simp only [this]
 rw [if_pos h]
theorem e_nextStr [Jn β] (H:Rh w0 ρ h n w) (f:Fr ρ m σ τ) {x:Operand} (e:nextX x true run σ h n kc=some r):Eff Pr (ev m τ) w (.next x true) ty (Kx w0 ρ r kc):=by
 replace e:on (evO x σ) (V.onPtr fun r' _ j=>Bool.rec none (on (T.get r' h) (Blk.onStrI fun l p=>nextStr r' l p h n kc)) (Nat.beq j 0))=some r:=e
 simp only [on_some,onPtr_some,ifT_some] at e
 obtain ⟨_,hx,b,i,j,rfl,hj,B,hB,e⟩:=e
 have hj:=Nat.eq_of_beq_eq_true hj
 subst hj
 obtain ⟨l,p,rfl,e⟩:=onStrI_some e
 have hv:=evO_sound f hx
 simp only [Rv] at hv
 obtain ⟨L,hL,_⟩:=hv
 obtain ⟨hk,s,ho,hl⟩:=H.live b _ L hB hL
 have hxv:=iter_at f hx hL hk
 refine e_nextS hxv ho (fun hp=>?_) fun hp w' hpt=>?_
 ·have:l=[]:=by rw [← hl];exact List.drop_eq_nil_of_le (by rw [bytesOf_len];omega)
  subst this
  exact ⟨ρ,.tup [.bool false],h,n,.refl _,H,by simp only [Rv];exact ⟨_,rfl,by simp only [Rvs,Rv];exact ⟨_,_,rfl,rfl,rfl⟩⟩,e⟩
 ·have hd:l=(s[p]).toNat::(bytesOf s).drop (p+1):=by
   rw [← hl,List.drop_eq_getElem_cons (by rw [bytesOf_len];exact hp)]
   congr 1;simp [bytesOf];rfl
  rw [hd] at e
  replace e:Bool.rec none (kc (.tup [.bool true,.int .i64 (.ofNat p),.int .i32 (.ofNat (s[p]).toNat)]) (T.put (some (.strIter ((bytesOf s).drop (p+1)) (Nat.succ p))) b h) n) (Nat.blt (s[p]).toNat 128)=some r:=e
  rw [ifT_some,blt_dec] at e
  obtain ⟨h128,e⟩:=e
  have h128:=of_decide_eq_true h128
  rw [decode_small hp h128] at hpt ⊢
  refine ⟨ρ,_,_,n,.refl _,H.turn hB hL hpt (B:=.strIter ((bytesOf s).drop (p+1)) (p+1)) ⟨hk,s,rfl,rfl⟩,?_,e⟩
  simp only [Rv]
  exact ⟨_,rfl,by simp only [Rvs,Rv];exact ⟨_,_,rfl,rfl,_,_,rfl,rfl,_,_,rfl,rfl,rfl⟩⟩
theorem memL_eq (x:Nat) (l:List Nat):memL x l=l.contains x:=by
 induction l with
 | nil=>rfl
 | cons a l ih=>
  show (Bool.rec (memL x l) true (Nat.beq a x):Bool)=_
  rw [ih,List.contains_cons,beq_dec]
  by_cases h:a=x
  ·subst h;simp
  ·have h2:(x == a)=false:=by simp;exact fun e=>h e.symm
   rw [decide_eq_false h,h2];simp
theorem unseen_rel {seen:List Nat} {es:List Ent} {l:List MapEntry} (a:All2 (ER ρ) es l):All2 (ER ρ) (unseen seen es) (l.filter fun e=>!(seen.reverse.toArray.contains e.born)):=by
 induction a with
 | nil=>exact .nil
 | cons h1 h2 ih=>
  rename_i e y es l
  show All2 (ER ρ) (Bool.rec (e::unseen seen es) (unseen seen es) (memL e.2.2 seen)) _
  rw [memL_eq,List.filter_cons]
  have hc:seen.reverse.toArray.contains y.born=seen.contains e.2.2:=by rw [h1.2.2];simp
  rw [hc]
  cases seen.contains e.2.2 with
  | true=>exact ih
  | false=>exact .cons h1 ih
theorem anyLt_rel {last:Nat} {es:List Ent} {l:List MapEntry} (a:All2 (ER ρ) es l) (e:anyLt last es=true):l.all (fun y=>decide (y.born≥last))=false:=by
 induction a with
 | nil=>cases e
 | cons h1 h2 ih=>
  rename_i v y es l
  replace e:(Bool.rec (anyLt last es) true (Nat.blt v.2.2 last):Bool)=true:=e
  rw [List.all_cons]
  cases hb:Nat.blt v.2.2 last with
  | true=>
   rw [blt_dec] at hb
   have:=of_decide_eq_true hb
   have h3:decide (y.born≥last)=false:=decide_eq_false (by rw [h1.2.2];omega)
   rw [h3];rfl
  | false=>rw [hb] at e;rw [ih e];simp
theorem stepOk_rel {seen:List Nat} {last:Nat} {es:List Ent} {l:Array MapEntry} (a:All2 (ER ρ) es l.toList) (e:stepOk seen es last=true):(!seen.reverse.toArray.isEmpty && !l.isEmpty && l.all (fun y=>decide (y.born≥last)))=false:=by
 cases seen with
 | nil=>simp
 | cons s q=>
  cases es with
  | nil=>
   have:l=#[]:=by
    have:=a.length_eq
    simp at this
    exact Array.eq_empty_of_size_eq_zero this.symm
   subst this;simp
  | cons x es=>
   have e:anyLt last (x::es)=true:=e
   have:=anyLt_rel a e
   rw [Array.all_toList] at this
   rw [this];simp
end
end Go.Lk
namespace Go.Lk
open Go.Eng Go.RowKit
section
variable {ρ:Ren} {Pr:Program} {m:Nat} {w0:Base} {w:World} {ty t t':TypeId} {σ:T V} {τ:Nat→Value} {h:T Blk} {n:P} {run:Run} {β:Type} [Jn β] [JnOK β] {r:β} {kc:V→T Blk→P→Option β}
theorem All2.mem_right {α γ:Type} {R:α→γ→Prop} {l:List α} {m:List γ} (a:All2 R l m) {y:γ} (hy:y ∈ m):∃ x,x ∈ l∧R x y:=by
 induction a with
 | nil=>cases hy
 | cons h _ ih=>
  rcases List.mem_cons.1 hy with rfl | hy
  ·exact ⟨_,List.mem_cons_self ..,h⟩
  ·obtain ⟨x,hx,hr⟩:=ih hy;exact ⟨x,List.mem_cons_of_mem _ hx,hr⟩
theorem next_many {ri mc:Nat} {since last c:Nat} {seenA:Array Nat} {l ys:Array MapEntry} (hit:w.heap[ri]?=some (.mapIter (some mc) since seenA last)) (hm:w.heap[mc]?=some (.map l c)) (hstep:(!seenA.isEmpty && !l.isEmpty && l.all (fun y=>decide (y.born≥last)))=false)
  (hleft:l.filter (fun e=>!seenA.contains e.born)=ys) (h0:0<ys.size) (hb:∀ y ∈ ys,y.born<since):∃ y,y ∈ ys∧∃ w1,(w1=w∨w1=w.drew)∧(Instr.next (.pointer (some ⟨ri,0,none⟩)) false ty).run Pr w= .ok (.tuple #[.bool true,y.key,y.val]) { w1 with heap:=w1.heap.setIfInBounds ri (.mapIter (some mc) since (seenA.push y.born) c) }:=by
 have g1:(getObj ri).run Pr w= .ok (.mapIter (some mc) since seenA last) w:=by simp [getObj,Sem.run,hit]
 have g2:(getObj mc).run Pr w= .ok (.map l c) w:=by simp [getObj,Sem.run,hm]
 have f1:ys.filter (fun e=>decide (e.born<since))=ys:=by
  apply Array.ext'
  rw [Array.toList_filter,List.filter_eq_self]
  intro y hy
  simpa using hb y (by simpa using hy)
 have f2:ys.filter (fun e=>decide (e.born≥since))=#[]:=by
  apply Array.ext'
  rw [Array.toList_filter,List.filter_eq_nil_iff]
  intro y hy
  have:=hb y (by simpa using hy)
  simp;omega
 have hne:ys.isEmpty=false:=by rw [Array.isEmpty_eq_false_iff];intro h;subst h;simp at h0
 have hch:∃ i w1,i<ys.size∧(w1=w∨w1=w.drew)∧(choose (.mapNext ys.size)).run Pr w= .ok i w1:=by
  rw [run_choose_drew]
  split
  ·exact ⟨0,w,h0,.inl rfl,rfl⟩
  ·exact ⟨_,w.drew,Nat.mod_lt _ h0,.inr rfl,rfl⟩
 obtain ⟨i,w1,hi,hw1,hrun⟩:=hch
 have g3:(setObj ri (.mapIter (some mc) since (seenA.push ys[i].born) c)).run Pr w1= .ok () { w1 with heap:=w1.heap.setIfInBounds ri (.mapIter (some mc) since (seenA.push ys[i].born) c) }:=by
  have hit1:w1.heap[ri]?=some (.mapIter (some mc) since seenA last):=by rcases hw1 with rfl | rfl <;> exact hit
  exact setObj_run hit1 (by intros;simp)
 refine ⟨ys[i],Array.getElem_mem hi,w1,hw1,?_⟩
 simp only [Instr.next,Sem.run_bind,g1,Result.andThen_ok,g2,hstep,Bool.false_eq_true,if_false,hleft,f1,f2,hne,Array.append_empty,Array.empty_append,Array.size_map,hrun,Array.getElem?_map,Array.getElem?_eq_getElem hi,Option.map_some,g3,Sem.run_pure]
theorem chooseE_some {f:Ent→Option β}:∀ {l:List Ent} {r:β},chooseE f l=some r→∀ e ∈ l,f e=some r
 | [],_,h,_,_=>by cases h
 | [x],r,h,e,he=>by
  have:e=x:=by simpa using he
  subst this;exact h
 | x::y::l,r,h,e,he=>by
  have h:Jn.j (f x) (chooseE f (y::l))=some r:=h
  obtain ⟨h1,h2⟩:=JnOK.ok _ _ _ h
  rcases List.mem_cons.1 he with rfl | he
  ·exact h1
  ·exact chooseE_some h2 e he
theorem next_none {ri mc:Nat} {since last c:Nat} {seenA:Array Nat} {l:Array MapEntry} (hit:w.heap[ri]?=some (.mapIter (some mc) since seenA last)) (hm:w.heap[mc]?=some (.map l c)) (hstep:(!seenA.isEmpty && !l.isEmpty && l.all (fun y=>decide (y.born≥last)))=false)
  (hleft:l.filter (fun e=>!seenA.contains e.born)=#[]):(Instr.next (.pointer (some ⟨ri,0,none⟩)) false ty).run Pr w= .ok (.tuple #[.bool false]) w:=by
 have g1:(getObj ri).run Pr w= .ok (.mapIter (some mc) since seenA last) w:=by simp [getObj,Sem.run,hit]
 have g2:(getObj mc).run Pr w= .ok (.map l c) w:=by simp [getObj,Sem.run,hm]
 simp only [Instr.next,Sem.run_bind,g1,Result.andThen_ok,g2,hstep,Bool.false_eq_true,if_false,hleft]
 simp [Question.forced]
theorem e_nextMap (H:Rh w0 ρ h n w) (f:Fr ρ m σ τ) {x:Operand} (e:nextX x false run σ h n kc=some r):Eff Pr (ev m τ) w (.next x false) ty (Kx w0 ρ r kc):=by
 replace e:on (evO x σ) (V.onPtr fun r' _ j=>Bool.rec none (on (T.get r' h) (Blk.onMapI fun m since seen last=>Option.rec (kc (.tup [.bool false]) h n) (fun m=>nextMap r' m since seen last h n kc) m)) (Nat.beq j 0))=some r:=e
 simp only [on_some,onPtr_some,ifT_some] at e
 obtain ⟨_,hx,b,i,j,rfl,hj,B,hB,e⟩:=e
 have hj:=Nat.eq_of_beq_eq_true hj
 subst hj
 obtain ⟨mo,since,seen,last,rfl,e⟩:=onMapI_some e
 have hv:=evO_sound f hx
 simp only [Rv] at hv
 obtain ⟨L,hL,_⟩:=hv
 obtain ⟨hk,rr,ho,hm⟩:=H.live b _ L hB hL
 have hxv:=iter_at f hx hL hk
 have over:kc (.tup [.bool false]) h n=some r→Kx w0 ρ r kc (.tuple #[.bool false]) w:=fun e=>⟨ρ,.tup [.bool false],h,n,.refl _,H,by simp only [Rv];exact ⟨_,rfl,by simp only [Rvs,Rv];exact ⟨_,_,rfl,rfl,rfl⟩⟩,e⟩
 cases mo with
 | none=>
  simp only at hm
  subst hm
  exact ⟨_,w,over e,.inl fun _ _ _ _=>by simp [execOp,hxv,Instr.next,getObj,ho,Sem.run]⟩
 | some mb=>
  obtain ⟨M,hM,hm⟩:=hm
  subst hm
  replace e:nextMap b mb since seen last h n kc=some r:=e
  unfold nextMap at e
  obtain ⟨es,c,hMB,e⟩:=onMapB_some' e
  rw [ifT_some] at e
  obtain ⟨hst,e⟩:=e
  obtain ⟨l,hl,ha,hn⟩:=H.live mb _ M hMB hM
  have hstep:=stepOk_rel ha hst
  have hun:=unseen_rel (seen:=seen) ha
  cases hus:unseen seen es with
  | nil=>
   rw [hus] at e hun
   have hleft:l.filter (fun e=>!seen.reverse.toArray.contains e.born)=#[]:=by
    apply Array.ext';rw [Array.toList_filter]
    have:=hun.length_eq
    exact List.eq_nil_of_length_eq_zero this.symm
   have hrun:=next_none (Pr:=Pr) (ty:=ty) ho hl hstep hleft
   exact ⟨_,w,over e,.inl fun _ _ _ _=>by simp [execOp,hxv,hrun]⟩
  | cons x1 rest=>
   rw [hus] at e
   replace e:chooseE (fun e=>Bool.rec none (kc (.tup [.bool true,e.1,e.2.1]) (T.put (some (.mapIter (some mb) since (e.2.2::seen) c)) b h) n) (Nat.blt e.2.2 since)) (x1::rest)=some r:=e
   rw [← hus] at e
   generalize hfl:l.toList.filter (fun e=>!seen.reverse.toArray.contains e.born)=fl at hun
   have hleft:l.filter (fun e=>!seen.reverse.toArray.contains e.born)=fl.toArray:=by
    apply Array.ext';rw [Array.toList_filter];exact hfl
   have hall:=chooseE_some e
   have hborn:∀ y ∈ fl.toArray,y.born<since:=fun y hy=>by
    obtain ⟨x,hx,hxy⟩:=hun.mem_right (by simpa using hy)
    have:=hall x hx
    rw [ifT_some,blt_dec] at this
    rw [hxy.2.2]
    exact of_decide_eq_true this.1
   have hlen:0<fl.toArray.size:=by
    have:=hun.length_eq
    rw [hus] at this
    simp only [List.length_cons,List.size_toArray] at this ⊢
    omega
   obtain ⟨y,hy,w1,hw1,hrun⟩:=next_many (Pr:=Pr) (ty:=ty) ho hl hstep hleft hlen hborn
   obtain ⟨x,hx,g1⟩:=hun.mem_right (by simpa using hy)
   have e:=hall x hx
   rw [ifT_some] at e
   have H1:Rh w0 ρ h n w1:=by rcases hw1 with rfl | rfl;exact H;exact H.drew
   have ho1:w1.heap[L.c]?=some (.mapIter (some M.c) since seen.reverse.toArray last):=by rcases hw1 with rfl | rfl <;> exact ho
   refine ⟨.tuple #[.bool true,y.key,y.val],{ w1 with heap:=w1.heap.setIfInBounds L.c (.mapIter (some M.c) since (seen.reverse.toArray.push y.born) c) },?_,.inl fun _ _ _ _=>by simp only [execOp,hxv,Sem.run_bind,hrun,Result.andThen_ok,Sem.run_pure]⟩
   refine ⟨ρ,_,_,n,.refl _,H1.turn hB hL ⟨(Array.getElem?_eq_some_iff.1 ho1).1,rfl⟩ (B:=.mapIter (some mb) since (x.2.2::seen) c) ⟨hk,some M.c,?_,M,hM,rfl⟩,?_,e.2⟩
   ·rw [g1.2.2];simp
   ·simp only [Rv]
    exact ⟨_,rfl,by simp only [Rvs,Rv];exact ⟨_,_,rfl,rfl,_,_,rfl,g1.1,_,_,rfl,g1.2.1,rfl⟩⟩
theorem atE_rel {s:Nat} {es:List Ent} {l:List MapEntry} {v:V} (a:All2 (ER ρ) es l) (e:atE s es=some v):∃ y,l.find? (fun y=>y.born == s)=some y∧Rv ρ v (.tuple #[y.key,y.val]):=by
 induction a with
 | nil=>cases e
 | cons h1 h2 ih=>
  rename_i x y es l
  replace e:(Bool.rec (atE s es) (some (.tup [x.1,x.2.1])) (Nat.beq x.2.2 s):Option V)=some v:=e
  rw [List.find?_cons]
  cases hb:Nat.beq x.2.2 s with
  | true=>
   rw [hb] at e
   cases e
   have:=Nat.eq_of_beq_eq_true hb
   have h3:(y.born == s)=true:=by rw [h1.2.2,this];simp
   rw [h3]
   refine ⟨y,rfl,?_⟩
   simp only [Rv]
   exact ⟨_,rfl,by simp only [Rvs];exact ⟨_,_,rfl,h1.1,_,_,rfl,h1.2.1,rfl⟩⟩
  | false=>
   rw [hb] at e
   have h3:(y.born == s)=false:=by rw [beq_dec] at hb;rw [h1.2.2];simpa using hb
   rw [h3]
   exact ih e
theorem s_entry (H:Rh w0 ρ h n w) (f:Fr ρ m σ τ) {x:Operand} {v:V} (e:entryQ x σ h=some v):∃ u,Ex Pr (ev m τ) w (.entry x) ty u∧Rv ρ v u:=by
 unfold entryQ at e
 simp only [on_some,onPtr_some,ifT_some] at e
 obtain ⟨_,hx,b,i,j,rfl,hj,B,hB,e⟩:=e
 have hj:=Nat.eq_of_beq_eq_true hj
 subst hj
 obtain ⟨mo,since,seen,last,rfl,e⟩:=onMapI_some e
 replace e:on mo (fun m=>List.rec none (fun s _ _=>onMapB h m fun es c=>Bool.rec none (atE s es) (Nat.beq c last)) seen)=some v:=e
 rw [on_some] at e
 obtain ⟨mb,rfl,e⟩:=e
 have hv:=evO_sound f hx
 simp only [Rv] at hv
 obtain ⟨L,hL,_⟩:=hv
 obtain ⟨hk,rr,ho,M,hM,rfl⟩:=H.live b _ L hB hL
 have hxv:=iter_at f hx hL hk
 cases seen with
 | nil=>cases e
 | cons s q=>
  replace e:onMapB h mb (fun es c=>Bool.rec none (atE s es) (Nat.beq c last))=some v:=e
  obtain ⟨es,c,hMB,e3⟩:=onMapB_some' (r:=v) e
  rw [ifT_some] at e3
  obtain ⟨hc,e4⟩:=e3
  have hc:=Nat.eq_of_beq_eq_true hc
  subst hc
  obtain ⟨l,hl,ha,hn⟩:=H.live mb _ M hMB hM
  obtain ⟨y,hy,hr⟩:=atE_rel ha e4
  have hfind:l.find? (fun y=>y.born == s)=some y:=by rw [← Array.find?_toList];exact hy
  refine ⟨_,fun _ _ _ _=>?_,hr⟩
  simp [execOp,hxv,Instr.entry,getObj,ho,hl,Sem.run,hfind]
end
end Go.Lk
namespace Go.Lk
open Go.Eng Go.RowKit
section
variable {ρ:Ren} {Pr:Program} {m:Nat} {w0:Base} {w:World} {ty t t':TypeId} {σ:T V} {τ:Nat→Value} {h:T Blk} {n:P} {run:Run} {β:Type} {r:β} {kc:V→T Blk→P→Option β}
theorem s_makeInterface (f:Fr ρ m σ τ) {x:Operand} {v:V} (e:(Bool.rec none (on (evO x σ) fun v=>some (.iface t v)) (concT Pr t):Option V)=some v):∃ u,Ex Pr (ev m τ) w (.makeInterface t x) ty u∧Rv ρ v u:=by
 rw [ifT_some,on_some] at e
 obtain ⟨hc,a,ha,e⟩:=e
 cases e
 have hx:=evO_sound f ha
 unfold concT at hc
 refine ⟨.iface t (ev m τ x),fun _ _ _ _=>?_,by simp only [Rv];exact ⟨_,rfl,hx⟩⟩
 cases hu:Pr.underlying t with
 | none=>rw [hu] at hc;cases hc
 | some d=>
  rw [hu] at hc
  cases d <;> first | (cases hc;done) | simp [execOp,Instr.makeInterface,run_underlying hu]
theorem bytesTy_spec (h:bytesTy Pr t=true):∃ e,Pr.underlying t=some (.slice e)∧Pr.underlying e=some (.int .u8):=by
 unfold bytesTy at h
 split at h
 ·rename_i e hu
  unfold u8T at h
  split at h
  ·rename_i he;exact ⟨e,hu,he⟩
  ·cases h
 ·cases h
theorem u8T_spec {e:TypeId} (h:u8T Pr e=true):Pr.underlying e=some (.int .u8):=by
 unfold u8T at h
 split at h
 ·assumption
 ·cases h
theorem convK_spec (s d:TypeId):(∀ k,convK Pr s d= .int k→(∃ u,Pr.underlying s=some u)∧Pr.underlying d=some (.int k))∧(convK Pr s d= .flt→(∃ u,Pr.underlying s=some u)∧Pr.underlying d=some (.float .f64))∧
  (∀ b,convK Pr s d= .str b→(∃ u,Pr.underlying s=some u)∧Pr.underlying d=some .string∧bytesTy Pr s=b)∧(∀ e,convK Pr s d= .bytes e→(∃ u,Pr.underlying s=some u)∧Pr.underlying d=some (.slice e)∧Pr.underlying e=some (.int .u8)):=by
 unfold convK
 cases hs:Pr.underlying s with
 | none=>simp
 | some a=>
  cases hd:Pr.underlying d with
  | none=>simp
  | some b=>
   cases b <;> simp
   case float k=>cases k <;> simp
   case slice e=>
    by_cases hu:u8T Pr e=true
    ·simp only [hu]
     simp
     exact u8T_spec hu
    ·simp [hu]
theorem bytesR_spec:∀ (rs:List (List V)) (l:List Nat),bytesR rs=some l→(∀ r ∈ rs,r.length=1)→rs.flatten=l.map (fun c=>V.int .u8 (.ofNat c))∧∀ c ∈ l,c<256
 | [],l,e,_=>by
  have e:some []=some l:=e
  cases e;exact ⟨rfl,by simp⟩
 | r::rs,l,e,hr=>by
  cases r with
  | nil=>have:=hr [] (List.mem_cons_self ..);cases this
  | cons v r=>
   have h1:=hr _ (List.mem_cons_self ..)
   have:r=[]:=List.eq_nil_of_length_eq_zero (by simpa using h1)
   subst this
   replace e:V.onInt (fun k x=>Bool.rec none (Int.rec (fun c=>Bool.rec none (on (bytesR rs) fun l=>some (c::l)) (Nat.blt c 256)) (fun _=>none) x) (Nat.beq (kindN k) 4)) v=some l:=e
   rw [onInt_some] at e
   obtain ⟨k,x,rfl,e⟩:=e
   rw [ifT_some] at e
   obtain ⟨hk,e⟩:=e
   cases x with
   | negSucc=>cases e
   | ofNat c=>
    replace e:Bool.rec none (on (bytesR rs) fun l=>some (c::l)) (Nat.blt c 256)=some l:=e
    rw [ifT_some,blt_dec,on_some] at e
    obtain ⟨hc,l',hl,e⟩:=e
    have hc:=of_decide_eq_true hc
    cases e
    have hk8:k= .u8:=by cases k <;> first | rfl | cases hk
    subst hk8
    obtain ⟨g1,g2⟩:=bytesR_spec rs l' hl fun r hr'=>hr r (List.mem_cons_of_mem _ hr')
    refine ⟨by rw [List.flatten_cons,g1];rfl,fun c' hc'=>?_⟩
    rcases List.mem_cons.1 hc' with rfl | h
    ·exact hc
    ·exact g2 _ h
theorem strOfNums_bytes (l:List Nat) (h:∀ c ∈ l,c<256):bytesOf (strOfNums (l.map fun c:Nat=>(c:Int)))=l:=by
 unfold bytesOf
 rw [strOfNums_data,List.map_map,List.map_map]
 conv=>rhs;rw [← List.map_id l]
 apply List.map_congr_left
 intro c hc
 have:=h c hc
 simp [UInt8.toNat_ofNat];omega
theorem Rvs_bytes:∀ {l:List Nat} {cs:List Value},Rvs ρ (l.map fun c=>V.int .u8 (.ofNat c)) cs→cs=l.map fun c:Nat=>Value.int .u8 (c:Int)
 | [],cs,h=>by simpa [Rvs] using h
 | c::l,cs,h=>by
  simp only [List.map_cons,Rvs] at h
  obtain ⟨x,r',rfl,hx,hr⟩:=h
  simp only [Rv] at hx
  rw [Rvs_bytes hr,hx];rfl
theorem s_conv (H:Rh w0 ρ h n w) (f:Fr ρ m σ τ) {s d:TypeId} {x:Operand} {v:V} (hq:quietOp Pr (.convert s d x)=true) (e:quietX Pr (.convert s d x) σ h=some v):∃ u,Ex Pr (ev m τ) w (.convert s d x) ty u∧Rv ρ v u:=by
 obtain ⟨c1,c2,c3,c4⟩:=convK_spec (Pr:=Pr) s d
 replace e:(CK.rec (fun k=>qx fun σ _=>on (evO x σ) (V.onInt fun _ a=>some (.int k (k.wrap a))))
  (qx fun σ _=>on (evO x σ) (V.onInt fun _ a=>some (.flt (fromInt a))))
  (fun bs _ σ h n f=>on (evO x σ) (toStr h n f bs))
  (fun _ _ σ h n f=>on (evO x σ) (V.onStr fun l=>Bool.rec (newB (.fz l) (.sl n 0 (lenL l) none) h n f) none (Nat.beq (lenL l) 0)))
  (fun _ _ _ _ _=>none) (convK Pr s d):OX V) (fun _ _ _=>none) σ h .z (fun v _ _=>some v)=some v:=e
 unfold quietOp at hq
 simp only at hq
 cases hK:convK Pr s d with
 | int k=>
  rw [hK] at e
  replace e:on (on (evO x σ) (V.onInt fun _ a=>some (.int k (k.wrap a)))) (fun v=>some v)=some v:=e
  simp only [on_some,onInt_some] at e
  obtain ⟨_,⟨_,hx,k',a,rfl,e⟩,e2⟩:=e
  cases e;cases e2
  have hv:=evO_sound f hx
  simp only [Rv] at hv
  obtain ⟨⟨u,hs⟩,hd⟩:=c1 k hK
  exact ⟨.int k (k.wrap a),fun _ _ _ _=>by simp [execOp,hv,convert,run_underlying hs,run_underlying hd,Conv.intToInt],by simp only [Rv]⟩
 | flt=>
  rw [hK] at e
  replace e:on (on (evO x σ) (V.onInt fun _ a=>some (.flt (fromInt a)))) (fun v=>some v)=some v:=e
  simp only [on_some,onInt_some] at e
  obtain ⟨_,⟨_,hx,k',a,rfl,e⟩,e2⟩:=e
  cases e;cases e2
  have hv:=evO_sound f hx
  simp only [Rv] at hv
  obtain ⟨⟨u,hs⟩,hd⟩:=c2 hK
  exact ⟨_,x_convF hd hs hv,by simp only [Rv]⟩
 | str bs=>
  rw [hK] at e
  replace e:on (evO x σ) (toStr h .z (fun v _ _=>some v) bs)=some v:=e
  rw [on_some] at e
  obtain ⟨a,hx,e⟩:=e
  have hv:=evO_sound f hx
  obtain ⟨⟨u,hs⟩,hd,hb⟩:=c3 bs hK
  cases a <;> first | (cases e;done) | skip
  ·cases e
   simp only [Rv] at hv
   obtain ⟨sv,hv,hl⟩:=hv
   exact ⟨.string sv,fun _ _ _ _=>by simp [execOp,hv,convert,run_underlying hs,run_underlying hd],by simp only [Rv];exact ⟨_,rfl,hl⟩⟩
  ·replace e:(Bool.rec none (some (.str [])) bs:Option V)=some v:=e
   rw [ifT_some] at e
   obtain ⟨rfl,e⟩:=e
   cases e
   obtain ⟨el,h1,h2⟩:=bytesTy_spec hb
   simp only [Rv] at hv
   have:=run_convert_bytes_nil (P:=Pr) w s el h1 h2 0 0 d hd
   exact ⟨.string .empty,fun _ _ _ _=>by simp [execOp,hv,this],by simp only [Rv];exact ⟨_,rfl,rfl⟩⟩
  ·rename_i b i len cap
   replace e:(Bool.rec none (sliceRows2 1 b i len h fun m=>on (bytesR m) fun l=>some (.str l)) bs:Option V)=some v:=e
   rw [ifT_some] at e
   obtain ⟨rfl,e⟩:=e
   simp only [Rv] at hv
   obtain ⟨L,c,pp,hL,hv,hpl,_⟩:=hv
   obtain ⟨old,e,hw,hn,hcs⟩:=sliceRows2_some (β:=V) H hL e
   rw [on_some] at e
   obtain ⟨l,hl,e⟩:=e
   cases e
   obtain ⟨el,h1,h2⟩:=bytesTy_spec hb
   rcases Nat.eq_zero_or_pos len with rfl | hp
   ·have:old=[]:=List.length_eq_zero_iff.1 hn
    subst this
    replace hl:some []=some l:=hl
    cases hl
    have:=run_convert_bytes_arg (P:=Pr) w s el h1 h2 L.c ((L.o+pp) * L.k) 0 c [] rfl (by intro i hi;omega) d hd
    exact ⟨_,fun _ _ _ _=>by simp [execOp,hv,this];rfl,by simp only [Rv];exact ⟨_,rfl,rfl⟩⟩
   ·obtain rfl:=(hpl.pos hp).symm
    obtain ⟨cs,q1,q2,q3,q4⟩:=hcs hp
    obtain ⟨g1,g2⟩:=bytesR_spec old l hl q4
    rw [g1] at q3
    have hcs:=Rvs_bytes q3
    have hll:l.length=len:=by have:cs.length=l.length:=(by rw [hcs];simp);omega
    have:=run_convert_bytes_arg (P:=Pr) w s el h1 h2 L.c ((L.o+i) * L.k) len c (l.map fun c:Nat=>(c:Int)) (by simp [hll]) (fun j hj=>by
     have hjl:j<cs.length:=by omega
     have hcell:=q2.cell j hjl
     rw [hcell]
     congr 1
     subst hcs
     simp [List.getD,show j<l.length by omega]) d hd
    exact ⟨_,fun _ _ _ _=>by simp [execOp,hv,this];rfl,by simp only [Rv];exact ⟨_,rfl,strOfNums_bytes l g2⟩⟩
 | bytes e'=>rw [hK] at hq;cases hq
 | no=>rw [hK] at hq;cases hq
end
end Go.Lk
namespace Go.Lk
open Go.Eng Go.RowKit
section
variable {ρ:Ren} {Pr:Program} {m:Nat} {w0:Base} {w:World} {ty t t':TypeId} {σ:T V} {τ:Nat→Value} {h:T Blk} {n:P} {run:Run} {β:Type} [Jn β] {r:β} {kc:V→T Blk→P→Option β}
theorem bytesWorld_al (w:World) (e:TypeId) (s:ByteArray):Al w.drew (Lib.bytesWorld w e s) (.cells (Lib.bytesCells w e s) e ((Lib.bytesCells w e s).size,(Lib.bytesCells w e s).size+1)):=by
 refine ⟨?_⟩
 have key:(Lib.bytesWorld w e s).heap=w.heap.push (.cells (Lib.bytesCells w e s) e ((Lib.bytesCells w e s).size,(Lib.bytesCells w e s).size+1)):=by
  apply Array.ext_getElem?
  intro j
  rcases Nat.lt_trichotomy j w.heap.size with hj | hj | hj
  ·rw [Lib.bytesWorld_at_old w e s j hj,Array.getElem?_push,if_neg (by omega)]
  ·subst hj
   rw [Lib.bytesWorld_at_new w e s,Array.getElem?_push,if_pos rfl]
  ·rw [Array.getElem?_eq_none (by rw [Lib.bytesWorld_size];omega),Array.getElem?_eq_none (by simp;omega)]
 have:Lib.bytesWorld w e s={ w.drew with heap:=(Lib.bytesWorld w e s).heap }:=rfl
 rw [this,key];rfl
theorem e_convB (H:Rh w0 ρ h n w) (f:Fr ρ m σ τ) {s d:TypeId} {x:Operand} (hK:∀ k,convK Pr s d≠.int k) (hF:convK Pr s d≠.flt) (hS:∀ b,convK Pr s d≠.str b) (e:opX Pr (.convert s d x) run σ h n kc=some r):Eff Pr (ev m τ) w (.convert s d x) ty (Kx w0 ρ r kc):=by
 obtain ⟨c1,c2,c3,c4⟩:=convK_spec (Pr:=Pr) s d
 replace e:(CK.rec (fun k=>qx fun σ _=>on (evO x σ) (V.onInt fun _ a=>some (.int k (k.wrap a))))
  (qx fun σ _=>on (evO x σ) (V.onInt fun _ a=>some (.flt (fromInt a))))
  (fun bs _ σ h n f=>on (evO x σ) (toStr h n f bs))
  (fun _ _ σ h n f=>on (evO x σ) (V.onStr fun l=>Bool.rec (newB (.fz l) (.sl n 0 (lenL l) none) h n f) none (Nat.beq (lenL l) 0)))
  (fun _ _ _ _ _=>none) (convK Pr s d):OX β) run σ h n kc=some r:=e
 cases hk:convK Pr s d with
 | int k=>exact absurd hk (hK k)
 | flt=>exact absurd hk hF
 | str b=>exact absurd hk (hS b)
 | no=>rw [hk] at e;cases e
 | bytes el=>
  rw [hk] at e
  replace e:on (evO x σ) (V.onStr fun l=>Bool.rec (newB (.fz l) (.sl n 0 (lenL l) none) h n kc) none (Nat.beq (lenL l) 0))=some r:=e
  simp only [on_some,onStr_some,ifF_some,lenL_eq] at e
  obtain ⟨_,hx,l,rfl,_,e⟩:=e
  have hv:=evO_sound f hx
  simp only [Rv] at hv
  obtain ⟨sv,hv,hl⟩:=hv
  obtain ⟨⟨u,hs⟩,hd,he⟩:=c4 el hk
  have hrun:=Lib.run_convert_string_bytes (P:=Pr) w s d el sv hs hd he
  have hal:=bytesWorld_al w el sv
  have hlen:l.length=sv.size:=by rw [← hl,bytesOf_len]
  refine ⟨.slice (some ⟨w.heap.size,0,none⟩) sv.size (grownCap w sv.size 0 el),Lib.bytesWorld w el sv,?_,.inl fun _ _ _ _=>by simp [execOp,hv,hrun]⟩
  unfold newB at e
  have hge:=grownCap_ge w sv.size 0 el
  refine ⟨ρ.put n ⟨w.heap.size,0,grownCap w sv.size 0 el,1⟩,_,_,n.succ,Ren.le_put H.free,H.drew.grow hal (.inr rfl) H.free (by rw [P.num_succ];omega) (by rw [P.num_succ];omega) rfl (B:=.fz l) ⟨rfl,_,_,_,rfl,fun i c hc=>?_⟩,?_,e⟩
  ·have hi:i<l.length:=(List.getElem?_eq_some_iff.1 hc).1
   have hi2:i<sv.data.size:=by rw [hlen] at hi;exact hi
   simp only [Nat.zero_add]
   unfold Lib.bytesCells
   rw [Array.getElem?_append_left (by rw [Array.size_map];exact hi2),Array.getElem?_map]
   subst hl
   unfold bytesOf at hc
   rw [List.getElem?_map,Array.getElem?_toList] at hc
   cases hb:sv.data[i]? with
   | none=>rw [hb] at hc;cases hc
   | some b=>rw [hb] at hc;cases hc;rfl
  ·simp only [Rv]
   exact ⟨_,grownCap w sv.size 0 el,0,Ren.put_same,by simp [hlen],PL.mkO (.inr (by decide)),by rw [hlen];exact hge,by simp⟩
theorem arg1_some {f:V→T Blk→P→(V→T Blk→P→Option β)→Option β} {as:List V} (e:arg1 f as h n kc=some r):∃ x,as=[x]∧f x h n kc=some r:=by
 have _:True:=(fun (_:Jn β)=>trivial) inferInstance
 cases as with
 | nil=>cases e
 | cons x q=>cases q with
  | nil=>exact ⟨x,rfl,e⟩
  | cons=>cases e
theorem arg2_some {f:V→V→T Blk→P→(V→T Blk→P→Option β)→Option β} {as:List V} (e:arg2 f as h n kc=some r):∃ x y,as=[x,y]∧f x y h n kc=some r:=by
 have _:True:=(fun (_:Jn β)=>trivial) inferInstance
 cases as with
 | nil=>cases e
 | cons x q=>cases q with
  | nil=>cases e
  | cons y q=>cases q with
   | nil=>exact ⟨x,y,rfl,e⟩
   | cons=>cases e
theorem ops1 {as:Array Operand} {x:V} (f:Fr ρ m σ τ) (e:evOs as.toList σ=some [x]):∃ o,as=#[o]∧Rv ρ x (ev m τ o):=by
 have h:=evOs_sound f e
 have hl:=h.length
 rw [List.length_map] at hl
 obtain ⟨o,ho⟩:∃ o,as.toList=[o]:=List.length_eq_one_iff.1 hl
 rw [ho] at h
 simp only [List.map_cons,List.map_nil,Rvs] at h
 obtain ⟨y,r',h1,h2,rfl⟩:=h
 cases h1
 exact ⟨o,by rw [← Array.toArray_toList (xs:=as),ho],h2⟩
theorem ops2 {as:Array Operand} {x y:V} (f:Fr ρ m σ τ) (e:evOs as.toList σ=some [x,y]):∃ o p,as=#[o,p]∧Rv ρ x (ev m τ o)∧Rv ρ y (ev m τ p):=by
 have h:=evOs_sound f e
 have hl:=h.length
 rw [List.length_map] at hl
 obtain ⟨o,p,ho⟩:∃ o p,as.toList=[o,p]:=by
  generalize as.toList=l at hl
  match l,hl with
  | [o,p],_=>exact ⟨o,p,rfl⟩
 rw [ho] at h
 simp only [List.map_cons,List.map_nil,Rvs] at h
 obtain ⟨y',r',h1,h2,z',r2,h3,h4,rfl⟩:=h
 cases h1;cases h3
 exact ⟨o,p,by rw [← Array.toArray_toList (xs:=as),ho],h2,h4⟩
theorem s_len {n':P} (H:Rh w0 ρ h n' w) (f:Fr ρ m σ τ) {as:Array Operand} {ts:Array TypeId} {vs:List V} (ha:evOs as.toList σ=some vs) (e:builtinX Pr .len ts vs h n kc=some r) :
  ∃ v u,kc v h n=some r∧Rv ρ v u∧Ex Pr (ev m τ) w (.call { callee:=.builtin .len,args:=as,argTypes:=ts }) ty u:=by
 unfold builtinX at e
 simp only at e
 cases h0:ts[0]? with
 | none=>rw [h0] at e;cases e
 | some t=>
  rw [h0] at e
  simp only [Option.bind_some] at e
  cases hu:Pr.underlying t with
  | none=>rw [hu] at e;cases e
  | some d=>
   rw [hu] at e
   cases d <;> first | (cases e;done) | skip
   case string=>
    obtain ⟨x,rfl,e1⟩:=arg1_some (r:=r) e
    obtain ⟨o,rfl,hx⟩:=ops1 f ha
    rw [onStr_some] at e1
    obtain ⟨l,rfl,e2⟩:=e1
    simp only [Rv] at hx
    obtain ⟨s,hx,hl⟩:=hx
    refine ⟨_,_,e2,?_,x_lenS (P:=Pr) (w:=w) (ty:=ty) h0 hu hx⟩
    simp only [Rv,lenL_eq]
    rw [← hl,bytesOf_len];rfl
   case slice el=>
    obtain ⟨x,rfl,e1⟩:=arg1_some (r:=r) e
    obtain ⟨o,rfl,hx⟩:=ops1 f ha
    rw [onSl_some] at e1
    rcases e1 with ⟨rfl,e2⟩ | ⟨b,i,l,c,rfl,e2⟩
    ·simp only [Rv] at hx
     exact ⟨_,_,e2,by simp only [Rv];rfl,x_lenSl h0 hu hx⟩
    ·simp only [Rv] at hx
     obtain ⟨L,c',_,hL,hx,_⟩:=hx
     exact ⟨_,_,e2,by simp only [Rv];rfl,x_lenSl h0 hu hx⟩
   case map k el=>
    obtain ⟨x,rfl,e1⟩:=arg1_some (r:=r) e
    obtain ⟨o,rfl,hx⟩:=ops1 f ha
    rw [onMap_some] at e1
    rcases e1 with ⟨rfl,e2⟩ | ⟨b,rfl,e2⟩
    ·simp only [Rv] at hx
     exact ⟨_,.int .i64 0,e2,by simp only [Rv],fun _ _ _ _=>by simp [execOp,resolve,invoke,builtin,hx,Builtin.len_,h0,run_underlying hu,goInt]⟩
    ·obtain ⟨es,c,hB,e3⟩:=onMapB_some' (r:=r) e2
     simp only [Rv] at hx
     obtain ⟨L,hL,hx⟩:=hx
     obtain ⟨l,hl,hr,_⟩:=H.live b _ L hB hL
     have hlen:es.length=l.size:=by have:=hr.length_eq;simpa using this
     refine ⟨_,.int .i64 (l.size:Int),e3,by simp only [Rv,lenL_eq,hlen];rfl,fun _ _ _ _=>?_⟩
     simp [execOp,resolve,invoke,builtin,hx,Builtin.len_,h0,run_underlying hu,goInt,getObj,hl,Sem.run]
theorem s_cap (f:Fr ρ m σ τ) {as:Array Operand} {ts:Array TypeId} {vs:List V} (ha:evOs as.toList σ=some vs) (e:builtinX Pr .cap ts vs h n kc=some r) :
  ∃ v u,kc v h n=some r∧Rv ρ v u∧Ex Pr (ev m τ) w (.call { callee:=.builtin .cap,args:=as,argTypes:=ts }) ty u:=by
 unfold builtinX at e
 simp only at e
 cases h0:ts[0]? with
 | none=>rw [h0] at e;cases e
 | some t=>
  rw [h0] at e
  simp only [Option.bind_some] at e
  cases hu:Pr.underlying t with
  | none=>rw [hu] at e;cases e
  | some d=>
   rw [hu] at e
   cases d <;> first | (cases e;done) | skip
   case slice el=>
    obtain ⟨x,rfl,e1⟩:=arg1_some (r:=r) e
    obtain ⟨o,rfl,hx⟩:=ops1 f ha
    rw [onSl_some] at e1
    rcases e1 with ⟨rfl,e2⟩ | ⟨b,i,l,c,rfl,e2⟩
    ·simp only [Rv] at hx
     exact ⟨_,_,e2,by simp only [Rv];rfl,x_capSl h0 hu hx⟩
    ·cases c with
     | none=>cases e2
     | some c=>
      simp only [Rv] at hx
      obtain ⟨L,c',pp,hL,hx,hc,_⟩:=hx
      obtain ⟨rfl,rfl⟩:=hc.capd
      exact ⟨_,_,e2,by simp only [Rv];rfl,x_capSl h0 hu hx⟩
theorem s_min (f:Fr ρ m σ τ) {as:Array Operand} {ts:Array TypeId} {vs:List V} (ha:evOs as.toList σ=some vs) (e:builtinX Pr .min ts vs h n kc=some r) :
  ∃ v u,kc v h n=some r∧Rv ρ v u∧Ex Pr (ev m τ) w (.call { callee:=.builtin .min,args:=as,argTypes:=ts }) ty u:=by
 unfold builtinX at e
 simp only at e
 obtain ⟨x,y,rfl,e1⟩:=arg2_some (r:=r) e
 obtain ⟨o,p,rfl,hx,hy⟩:=ops2 f ha
 clear e
 rw [on_some] at e1
 obtain ⟨z,hz,e⟩:=e1
 cases x <;> first | (cases hz;done) | skip
 ·rename_i k a
  replace hz:V.onInt (fun j y=>Bool.rec none (some (.int k (Bool.rec a y (ltI y a)))) (Nat.beq (kindN k) (kindN j))) y=some z:=hz
  simp only [onInt_some,ifT_some] at hz
  obtain ⟨j,b,rfl,hk,hz⟩:=hz
  cases hz
  have hk:=kindN_inj hk
  subst hk
  simp only [Rv] at hx hy
  refine ⟨_,.int k (if b<a then b else a),e,by simp only [Rv,ltI_eq];by_cases hl:b<a <;> simp [hl],fun _ _ _ _=>?_⟩
  simp [execOp,resolve,hx,hy,invoke,builtin,Builtin.min_,Builtin.min2,List.foldlM]
 rename_i a
 replace hz:V.onFlt (fun b=>on (minF a b) fun c=>some (.flt c)) y=some z:=hz
 cases y <;> first | (cases hz;done) | skip
 rename_i b
 replace hz:on (minF a b) (fun c=>some (.flt c))=some z:=hz
 rw [on_some] at hz
 obtain ⟨c,hc,hz⟩:=hz
 cases hz
 simp only [Rv] at hx hy
 have h':FloatKind.f64.format.order a b=Flt.D.order a b:=rfl
 refine ⟨_,.float .f64 c,e,by simp only [Rv],fun _ _ _ _=>?_⟩
 unfold minF at hc
 rw [if_some] at hc
 rcases hc with ⟨h1,hc⟩ | ⟨_,hc⟩
 ·cases hc
  cases ho:Flt.D.order a b with
  | none=>rw [ho] at h1;cases h1
  | some q=>cases q <;> first | (rw [ho] at h1;cases h1;done) | simp [execOp,resolve,hx,hy,invoke,builtin,Builtin.min_,Builtin.min2,h',ho,List.foldlM]
 ·rw [if_some] at hc
  rcases hc with ⟨h1,hc⟩ | ⟨_,hc⟩
  ·cases hc
   cases ho:Flt.D.order a b with
   | none=>rw [ho] at h1;cases h1
   | some q=>cases q <;> first | (rw [ho] at h1;cases h1;done) | simp [execOp,resolve,hx,hy,invoke,builtin,Builtin.min_,Builtin.min2,h',ho,List.foldlM]
  ·rw [ifT_some,ifT_some] at hc
   obtain ⟨h1,hab,hc⟩:=hc
   have:=Nat.eq_of_beq_eq_true hab
   subst this
   cases hc
   cases ho:Flt.D.order a a with
   | none=>rw [ho] at h1;cases h1
   | some q=>cases q <;> first | (rw [ho] at h1;cases h1;done) | simp [execOp,resolve,hx,hy,invoke,builtin,Builtin.min_,Builtin.min2,h',ho,List.foldlM]
theorem s_max (f:Fr ρ m σ τ) {as:Array Operand} {ts:Array TypeId} {vs:List V} (ha:evOs as.toList σ=some vs) (e:builtinX Pr .max ts vs h n kc=some r) :
  ∃ v u,kc v h n=some r∧Rv ρ v u∧Ex Pr (ev m τ) w (.call { callee:=.builtin .max,args:=as,argTypes:=ts }) ty u:=by
 unfold builtinX at e
 simp only at e
 obtain ⟨x,y,rfl,e1⟩:=arg2_some (r:=r) e
 obtain ⟨o,p,rfl,hx,hy⟩:=ops2 f ha
 clear e
 rw [on_some] at e1
 obtain ⟨z,hz,e⟩:=e1
 unfold maxQ at hz
 simp only [onInt_some,ifT_some] at hz
 obtain ⟨k,a,rfl,j,b,rfl,hk,hz⟩:=hz
 cases hz
 have hk:=kindN_inj hk
 subst hk
 simp only [Rv] at hx hy
 refine ⟨_,.int k (if b > a then b else a),e,by simp only [Rv,ltI_eq];by_cases hl:a<b <;> simp [hl],fun _ _ _ _=>?_⟩
 simp [execOp,resolve,hx,hy,invoke,builtin,Builtin.max_,Builtin.max2,List.foldlM]
end
end Go.Lk
