/- A lean reckoner for closed runs: append stands. Over any program. -/
import Derived.Test.YtljfgmedbjlkaaaGreatLkN
import Derived.MapKept
import Derived.Lib.ConvBytes
import Derived.Laws.BytesArg
namespace Go.Lk
open Go.Eng Go.RowKit
section
variable {ρ:Ren} {Pr:Program} {m:Nat} {w0:Base} {w:World} {ty t t':TypeId} {σ:T V} {τ:Nat->Value} {h:T Blk} {n:P} {run:fG}
theorem Rh.alias (H:Rh w0 ρ h n w) {b:P} {B0 B:Blk} {L L':Loc} {w':World} {o:Obj} (hb:T.get b h=some B0) (hL:ρ b=some L) (hp:Pt w w' L.c o) (hc:L'.c=L.c) (hB:Rb (ρ.put n L') L' (some o) B):Rh w0 (ρ.put n L') (T.put (some B) n (T.put none b h)) n.succ w':=by
 have hfree:=H.free;have hsafe:=H.safe b B0 L hb hL;have hnew:=H.new b L hL
 have other:∀ x X M,T.get x (T.put none b h)=some X->ρ x=some M->M.c≠L.c:=λx X M hx hM hcc=>by
  rw [T.get_put] at hx
  split at hx
  .cases hx
  .rename_i hne;exact hne (H.apart x b X B0 M L hx hb hM hL hcc)
 have old:∀ x X,x≠n->T.get x (T.put (some B) n (T.put none b h))=some X->T.get x (T.put none b h)=some X:=λx X hne hx=>by rwa [T.get_put_ne _ hne] at hx
 have rold:∀ x M,x≠n->(ρ.put n L') x=some M->ρ x=some M:=λx M hne hM=>by simpa only [Ren.put,if_neg hne] using hM
 refine ⟨hp.below H.old hnew.1,λc o' hk=>?_,λx X M hx hM=>?_,λx M hM=>?_,λx X M hx hM=>?_,λx y X Y M N hx hy hM hN hcc=>?_⟩
 .have hne:c≠L.c:=λe=>by subst e;rw [hsafe] at hk;cases hk
  rw [hp.old hne];exact H.kept c o' hk
 .by_cases e:x=n
  .subst e;simp only [Ren.put,if_true] at hM;cases hM
   rw [hc];exact hsafe
  .have h1:=old x X e hx;rw [T.get_put] at h1
   split at h1
   .cases h1
   .exact H.safe x X M h1 (rold x M e hM)
 .rw [hp.size]
  by_cases e:x=n
  .subst e;simp only [Ren.put,if_true] at hM;cases hM
   rw [hc,P.num_succ];exact ⟨hnew.1,hnew.2.1,by omega⟩
  .have:=H.new x M (rold x M e hM);rw [P.num_succ];exact ⟨this.1,this.2.1,by omega⟩
 .by_cases e:x=n
  .subst e;rw [T.get_put_same] at hx;cases hx
   simp only [Ren.put,if_true] at hM;cases hM
   rw [hc,hp.new];exact hB
  .have h1:=old x X e hx;have h2:=rold x M e hM;rw [hp.old (other x X M h1 h2)];rw [T.get_put] at h1
   split at h1
   .cases h1
   .exact (H.live x X M h1 h2).mono (Ren.le_put hfree)
 .by_cases e1:x=n <;> by_cases e2:y=n
  .rw [e1,e2]
  .subst e1;simp only [Ren.put,if_true] at hM;cases hM
   exact absurd (hcc.symm.trans hc) (other y Y N (old y Y e2 hy) (rold y N e2 hN))
  .subst e2;simp only [Ren.put,if_true] at hN;cases hN
   exact absurd (hcc.trans hc) (other x X M (old x X e1 hx) (rold x M e1 hM))
  .have h1:=old x X e1 hx;have h2:=old y Y e2 hy;rw [T.get_put] at h1 h2
   split at h1
   .cases h1
   .split at h2
    .cases h2
    .exact H.apart x y X Y M N h1 h2 (rold x M e1 hM) (rold y N e2 hN) hcc
variable {β:Type} {r:β} {k:V->T Blk->P->Option β} {e u:TypeId} {i:TypeInfo} {z:Value} {S X:Value} {mm:Nat} {news:List Value} {new:List (List V)} {s:V}
theorem qw {β:Type} {e:TypeId} {kk:Nat} {b:P} {i len:Nat} {f:List (List V)->Option β} {r:β} (ev:mC e kk b i len h f=some r) :
  ∃ op rs old,T.get b h=some (.rows e kk op rs)/\len<=(rs.drop i).length/\old=(rs.drop i).take len/\f old=some r:=by
 unfold mC at ev;simp only [ah,dQ,aj] at ev;obtain ⟨B,hB,t',k,op,rs,rfl,he,hk,old,ht,ev⟩:=ev;have:=Nat.eq_of_beq_eq_true hk;subst this;have:=Nat.eq_of_beq_eq_true he;subst this;rw [dA] at ht;obtain ⟨h1,h2⟩:=bL _ _ _ ht;exact ⟨op,rs,old,hB,h1,h2,ev⟩
theorem mh (H:Rh w0 ρ h n w) (ht:Pr.underlying t=some (.slice e)) (hu:∃ d,Pr.underlying u=some d/\∀ k,d≠.int k) (hi:Pr.info? e=some i) (hz:i.zero=some z) (hzs:z.cells.size=i.size) (hpos:0<i.size) (hby:0<i.bytes)
  (hs:Rv ρ s S) (hx:AppSrc Pr X mm i.size news w) (hnv:Rvs ρ new.flatten news) (hnr:∀ r ∈ new,r.length=i.size) (hnl:new.length=mm) (hmm:0<mm) (ev:qN e i.size i.bytes new mm s h n k=some r) :
  ∃ v w',(Builtin.append_ #[t,u] ty #[S,X]).run Pr w= .ok v w'/\Kx w0 ρ r k v w':=by
 have small:∀ q,q * i.bytes<=140737488355328->q<=140737488355328:=λq hq=>Nat.le_trans (Nat.le_mul_of_pos_right q hby) hq;unfold qN at ev;rw [bu] at ev
 rcases ev with ⟨rfl,ev⟩ | ⟨b,j,len,c,rfl,ev⟩
 .rw [aj] at ev;obtain ⟨h1,ev⟩:=ev;have h1:mm * i.bytes<=140737488355328:=Nat.le_of_ble_eq_true h1;simp only [Rv] at hs;subst hs;exact mr H ht hu hi hz hzs hpos rfl (olds:=[]) (old:=[]) (run_firstCells_none w.drew i.size 0 0 0) (by simp) (by simp only [List.flatten_nil,Rvs]) (by simp) rfl hx hnv hnr hnl (by omega) (by simpa using h1) (by have:=small _ h1;omega) H (by omega) ev
 .rw [aj,nD] at ev;obtain ⟨hones,ev⟩:=ev;rw [aj] at ev;obtain ⟨h1,ev⟩:=ev;have h1:(len+mm) * i.bytes<=140737488355328:=Nat.le_of_ble_eq_true h1;have hsm:=small _ h1;have hone:∀ u ∈ news,K9 u:=jr hones hnv;simp only [Rv] at hs;obtain ⟨L,cc,p,hL,rfl,hc,hl,hfit⟩:=hs;have flat:∀ (old:List (List V)) (t':TypeId) (op:Bool) (rs:List (List V)),T.get b h=some (.rows t' i.size op rs)->len<=(rs.drop j).length->old=(rs.drop j).take len->
    ∃ cs,cs.length=len * i.size/\Cells w.heap L.c ((L.o+p) * L.k) cs/\Rvs ρ old.flatten cs/\(∀ r ∈ old,r.length=i.size)/\old.length=len/\
     (Builtin.firstCells i.size len (.slice (some ⟨L.c,(L.o+p) * L.k,none⟩) len cc)).run Pr w.drew= .ok cs.toArray w.drew:=by
   intro old t' op rs hB hlen ho
   rcases Nat.eq_zero_or_pos len with rfl | hp
   .subst ho;have hk:=H.width hB hL;obtain ⟨_,arr,ha,_⟩:=H.live b _ L hB hL;exact ⟨[],by simp,⟨arr,t',_,ha,λj hj=>absurd hj (by simp)⟩,by simp [Rvs],by simp,rfl,run_firstCells_some (P:=Pr) w.drew i.size 0 ⟨L.c,(L.o+p) * L.k,none⟩ 0 cc [] (by simp) (λj v hv=>by simp at hv)⟩
   .obtain rfl:=hc.pos hp;obtain ⟨cs,q1,q2,q3,q4⟩:=H.flat hB hL len p old hlen ho (by simp only [List.length_drop] at hlen;omega);refine ⟨cs,q1,q2,q3,q4,by rw [ho,List.length_take];omega,run_firstCells_some (P:=Pr) w.drew i.size len _ len cc cs q1 λq v hv=>?_⟩;have hq:=(List.getElem?_eq_some_iff.1 hv).1;rw [bH];have:=q2.cell q hq;rw [← (List.getElem?_eq_some_iff.1 hv).2];exact this
  cases c with
  | none=>
   obtain ⟨op,rs,old,hB,hlen,ho,ev⟩:=qw (β:=β) ev
   have hk:=H.width hB hL
   obtain ⟨cs,q1,q2,q3,q4,q5,q6⟩:=flat old e op rs hB hlen ho
   by_cases hroom:len+mm<=cc
   .have hlive:=H.live b _ L hB hL
    obtain ⟨_,arr,ha,hsz,_⟩:=hlive
    have hblk:Go.Eng.Blk w.heap L.c arr.toList e:=by unfold Go.Eng.Blk;rw [ha]
    have hal:arr.toList.length=arr.size:=Array.length_toList
    have e1:(L.o+p) * L.k+len * i.size=(L.o+p+len) * L.k:=by rw [← hk,Nat.add_mul (L.o+p)]
    have e2:(L.o+p+len) * L.k+news.length<=(L.o+L.cap) * i.size:=by
     rw [hx.size,← hk,← Nat.add_mul];exact Nat.mul_le_mul_right _ (by omega)
    obtain ⟨w',hp,hrun⟩:=rH (ty:=ty) ht hu hi (off:=(L.o+p) * L.k) hx hone hroom hblk (by rw [e1,hal,hsz];exact e2)
    refine ⟨_,w',hrun,?_⟩
    unfold uP eB at ev
    rw [il] at ev
    have hfitA:(L.o+p) * L.k+len * i.size+news.length<=arr.toList.length:=by rw [e1,hal,hsz];exact e2
    have hRb:Rb ρ ⟨L.c,L.o+p,cc,L.k⟩ (some (.cells (aL arr.toList ((L.o+p) * L.k+len * i.size) news).toArray e (0,0))) (.rows e i.size true (old++new)):=by
     refine Rb.known (cs:=cs++news) hk ?_ (by rw [List.length_append,q5,hnl];exact hroom) (λr hr=>?_) (by rw [List.flatten_append];exact q3.append hnv) λq hq=>?_
     .rw [List.size_toArray,ji hfitA,hal,hsz]
      congr 1;have:=hc.full (by omega);show L.o+L.cap=(L.o+p)+cc;omega
     .rcases List.mem_append.1 hr with g | g
      .exact q4 r g
      .exact hnr r g
     .rw [List.getElem?_toArray];unfold aL;rw [eZ hfitA];show (if (L.o+p) * L.k+len * i.size<=(L.o+p) * i.size+q/\(L.o+p) * i.size+q<(L.o+p) * L.k+len * i.size+news.length then news[(L.o+p) * i.size+q-((L.o+p) * L.k+len * i.size)]? else _)=_
      by_cases hqc:q<cs.length
      .rw [if_neg (by rw [← hk] at q1 ⊢;omega),List.getElem_append_left hqc,Array.getElem?_toList];obtain ⟨arr',_,_,ha',hcell⟩:=q2;rw [ha] at ha';cases ha'
       have:=hcell q hqc;rw [← hk];exact this
      .have hqn:q-cs.length<news.length:=by simp only [List.length_append] at hq;omega
       rw [if_pos (by rw [← hk] at q1 ⊢;constructor <;> omega),List.getElem_append_right (by omega)];have:(L.o+p) * i.size+q-((L.o+p) * L.k+len * i.size)=q-cs.length:=by rw [← hk] at q1 ⊢;omega
       rw [this];exact List.getElem?_eq_getElem hqn
    refine ⟨ρ.put n ⟨L.c,L.o+p,cc,L.k⟩,_,_,_,Ren.le_put H.free,H.alias hB hL hp rfl (hRb.mono (Ren.le_put H.free)),?_,ev⟩
    simp only [Rv]
    exact ⟨_,cc,0,Ren.put_same,by simp,PL.mkO (.inr (by decide)),hroom,by simp⟩
   .exact mr H ht hu hi hz hzs hpos rfl q6 q1 q3 q4 q5 hx hnv hnr hnl (by omega) h1 hsm (H.drop b) rfl ev
  | some c=>
   obtain ⟨rfl,rfl⟩:=hc.capd
   rw [fJ] at ev
   rcases ev with ⟨hroom,ev⟩ | ⟨hroom,ev⟩
   .have hroom:len+mm<=cc:=Nat.le_of_ble_eq_true hroom
    obtain ⟨t',op,rs,old,hB,hlen,ho,ev⟩:=iD (β:=β) ev
    have hk:=H.width hB hL
    unfold lS at ev
    simp only [ah,dQ] at ev
    obtain ⟨h',⟨B,hB',t2,k2,op2,rs2,rfl,rs',hov,hh⟩,ev⟩:=ev
    cases hh
    rw [hB] at hB'
    cases hB'
    have hlive:=H.live b _ L hB hL
    obtain ⟨_,arr,ha,hsz,_⟩:=hlive
    have hlive:=H.live b _ L hB hL
    rw [ha] at hlive
    obtain ⟨g1,g2⟩:=Rb.writeRows hlive hov hnv hnr
    have hblk:Go.Eng.Blk w.heap L.c arr.toList t':=by unfold Go.Eng.Blk;rw [ha]
    have e1:(L.o+p) * L.k+len * i.size=(L.o+(p+len)) * L.k:=by rw [← hk,← Nat.add_mul,Nat.add_assoc]
    obtain ⟨w',hp,hrun⟩:=rH (ty:=ty) ht hu hi (off:=(L.o+p) * L.k) hx hone hroom hblk (by rw [e1];exact g1)
    rw [e1] at hp
    refine ⟨_,w',hrun,ρ,_,_,n,.refl _,H.turn hB hL hp g2,?_,ev⟩
    simp only [Rv]
    exact ⟨L,cc,p,hL,rfl,PL.mkC,hroom,hfit⟩
   .have hroom:¬ len+mm<=cc:=λh'=>by have h2:Nat.ble (len+mm) cc=true:=Nat.ble_eq_true_of_le h';have h3:Nat.ble (len+mm) cc=false:=hroom;rw [h2] at h3;cases h3
    obtain ⟨t',op,rs,old,hB,hlen,ho,ev⟩:=iD (β:=β) ev
    obtain ⟨cs,q1,q2,q3,q4,q5,q6⟩:=flat old t' op rs hB hlen ho
    exact mr H ht hu hi hz hzs hpos rfl q6 q1 q3 q4 q5 hx hnv hnr hnl (by omega) h1 hsm H rfl ev
end
end Go.Lk
namespace Go.Lk
open Go.Eng Go.RowKit
theorem vI (off:Nat):∀ (l:List Value) (k:Nat) (arr:Array Value),off+k+l.length<=arr.size->
  ((l.zipIdx k).foldl (λcs (c,j)=>cs.setIfInBounds (off+j) c) arr).toList=arr.toList.take (off+k)++l++arr.toList.drop (off+k+l.length)
 | [],k,arr,_=>by simp
 | v::l,k,arr,h=>by
  simp only [List.length_cons] at h;rw [List.zipIdx_cons,List.foldl_cons,vI off l (k+1) _ (by simp;omega)];have hlt:off+k<arr.toList.length:=by rw [Array.length_toList];omega
  rw [Array.toList_setIfInBounds]
  have e1:List.take (off+(k+1)) (arr.toList.set (off+k) v)=List.take (off+k) arr.toList++[v]:=by
   rw [← Nat.add_assoc,List.take_succ_eq_append_getElem (by rw [List.length_set];exact hlt),List.take_set_of_le (Nat.le_refl _)];simp
  have e2:List.drop (off+(k+1)+l.length) (arr.toList.set (off+k) v)=List.drop (off+k+(l.length+1)) arr.toList:=by
   rw [List.drop_set_of_lt (by omega)];congr 1;omega
  rw [e1,e2];simp
section
variable {ρ:Ren} {Pr:Program} {m:Nat} {w0:Base} {w:World} {ty t t':TypeId} {σ:T V} {τ:Nat->Value} {h:T Blk} {n:P} {run:fG}
theorem kS (f:Fr ρ m σ τ) {place:Nat->Option (Nat × Nat)}:∀ (parts:List (Nat × Operand)) (l l':List V) (arr:Array Value),uH place parts σ l=some l'->Rvs ρ l arr.toList->
  ∃ arr',Instr.fill place arr (parts.map λ(i,x)=>(i,ev m τ x))=some arr'/\Rvs ρ l' arr'.toList/\l'.length=l.length
 | [],l,l',arr,e,hv=>by
  have e:some l=some l':=e;cases e
  exact ⟨arr,rfl,hv,rfl⟩
 | (i,x)::parts,l,l',arr,e,hv=>by
  replace e:on (place i) (λos=>Prod.rec (λo s=>on (aJ x σ) (V.onCells λc=>Bool.rec none (on (gM c o l) λl'=>uH place parts σ l') (Nat.beq (bR c) s))) os)=some l':=e
  rw [ah] at e;obtain ⟨⟨o,s⟩,hp,e⟩:=e
  replace e:on (aJ x σ) (V.onCells λc=>Bool.rec none (on (gM c o l) λl'=>uH place parts σ l') (Nat.beq (bR c) s))=some l':=e
  simp only [ah,dw,aj,bO] at e;obtain ⟨v,hx,ht,hs,l1,ho,e⟩:=e;have hs:=Nat.eq_of_beq_eq_true hs;have hc:=eV (av f hx) ht;have hcl:=hc.length;obtain ⟨h1,h2⟩:=kG _ _ _ _ ho;have hvl:=hv.length;rw [Array.length_toList] at hvl hcl;have hsz:(ev m τ x).cells.size=s:=by omega
  have hfold:=vI o (ev m τ x).cells.toList 0 arr (by rw [Array.length_toList];omega);simp only [Nat.add_zero,Array.length_toList] at hfold
  have hv1:Rvs ρ l1 ((ev m τ x).cells.zipIdx.foldl (λcs (c,j)=>cs.setIfInBounds (o+j) c) arr).toList:=by
   rw [← Array.foldl_toList,Array.toList_zipIdx,hfold,h2];have e1:(py v).length=(ev m τ x).cells.size:=by omega
   rw [e1];exact ((hv.split o).1.append hc).append (hv.split _).2
  obtain ⟨arr',q1,q2,q3⟩:=kS f parts l1 l' _ e hv1;refine ⟨arr',?_,q2,by rw [q3,h2];simp;omega⟩;simp only [List.map_cons,Instr.fill,hp];rw [if_neg (by simp only [Bool.or_eq_true,decide_eq_true_eq,not_or];omega)];exact q1
theorem Ke (f:Fr ρ m σ τ) {parts:Array (Nat × Operand)} {v:V} (e:xu Pr t parts.toList σ=some v):∃ u,Ex Pr (ev m τ) w (.build t parts) ty u/\Rv ρ v u:=by
 unfold xu at e
 cases hpl:A8 Pr t with
 | none=>rw [hpl] at e;cases e
 | some pl=>
 cases hz:zN Pr t with
 | none=>rw [hpl,hz] at e;cases e
 | some z=>
  rw [hpl,hz] at e
  replace e:on (uH pl parts.toList σ z) (λl=>some (V.agg l))=some v:=e
  rw [ah] at e
  obtain ⟨l,hl,e⟩:=e
  cases e
  unfold zN at hz
  rw [ah] at hz
  obtain ⟨zv,hzv,hz⟩:=hz
  rw [dw] at hz
  obtain ⟨ht,hz⟩:=hz
  cases hz
  unfold pR at hzv
  cases hi:Pr.info? t with
  | none=>rw [hi] at hzv;cases hzv
  | some it=>
   rw [hi] at hzv
   cases hzz:it.zero with
   | none=>simp [hzz] at hzv
   | some zr=>
    simp [hzz] at hzv
    have hzc:=eV ((gK ρ 600).1 _ _ hzv) ht
    obtain ⟨arr',q1,q2,_⟩:=kS f parts.toList _ l zr.cells hl hzc
    have hb:Pr.built t (parts.map λ(i,x)=>(i,ev m τ x)).toList=some arr':=by
     rw [Array.toList_map];unfold Program.built;rw [hi];unfold A8 at hpl
     cases hu:Pr.underlying t with
     | none=>rw [hu] at hpl;cases hpl
     | some d=>
      rw [hu] at hpl
      cases d <;> simp only at hpl <;> first | (cases hpl;done) | skip
      case array k e=>
       cases hie:Pr.info? e with
       | none=>simp [hie] at hpl
       | some ie=>
        simp [hie] at hpl
        subst hpl
        simp only [hzz,hie]
        exact q1
      case struct fields=>
       cases hp:fields.toList.mapM (λf=>(Pr.info? f.type).map λi=>(f.offset,i.size)) with
       | none=>simp [hp] at hpl
       | some places=>
        simp [hp] at hpl
        subst hpl
        simp only [hzz,hp]
        have:(λx:Nat=>places.toArray[x]?)=λi:Nat=>places[i]? :=by funext i;simp
        rw [this]
        exact q1
    exact ⟨.agg arr',aw λw=>run_build w t _ arr' hb,by simp only [Rv];exact ⟨_,rfl,q2⟩⟩
theorem mT {e:TypeId} {a:Nat × List V} (h:Qu Pr e=some a):∃ i z,Pr.info? e=some i/\i.zero=some z/\i.size=a.1/\0<a.1/\a.2.length=a.1/\∀ ρ:Ren,Rvs ρ a.2 z.cells.toList:=by
 unfold Qu at h
 split at h
 .rename_i i z hi hz
  split at h
  .rename_i hc;cases h
   rw [bO] at hc;unfold zN at hz;rw [ah] at hz;obtain ⟨zv,hzv,hz⟩:=hz;rw [dw] at hz;obtain ⟨ht,hz⟩:=hz;cases hz
   unfold pR at hzv;rw [hi] at hzv
   cases hzz:i.zero with
   | none=>simp [hzz] at hzv
   | some zr=>
    simp [hzz] at hzv
    exact ⟨i,zr,hi,hzz,rfl,hc.2,hc.1,λρ=>eV ((gK ρ 600).1 _ _ hzv) ht⟩
  .cases h
 .cases h
theorem iT {a:TypeId × Nat × List V} (h:jY Pr t=some a):Pr.underlying t=some (.slice a.1)/\Qu Pr a.1=some a.2:=by
 unfold jY vJ at h
 split at h
 .rename_i e he
  split at he
  .rename_i hu;cases he
   cases hk:Qu Pr e with
   | none=>simp [hk] at h
   | some k=>simp [hk] at h;subst h;exact ⟨hu,hk⟩
  .cases he
 .cases h
theorem Rvs.repeat {l:List V} {xs:List Value} (h:Rvs ρ l xs):∀ n,Rvs ρ (List.replicate n l).flatten (List.replicate n xs).flatten
 | 0=>by simp only [List.replicate_zero,List.flatten_nil,Rvs]
 | n+1=>by rw [List.replicate_succ,List.replicate_succ,List.flatten_cons,List.flatten_cons];exact h.append (Rvs.repeat h n)
theorem rC {k:Nat}:∀ (n:Nat) (l:List V) (rs:List (List V)),IG k n l=some rs->l.length=n * k->rs.flatten=l/\(∀ r ∈ rs,r.length=k)/\rs.length=n
 | 0,l,rs,e,hl=>by
  have e:some []=some rs:=e;cases e
  have:l=[]:=List.eq_nil_of_length_eq_zero (by simpa using hl);subst this;exact ⟨rfl,by simp,rfl⟩
 | n+1,l,rs,e,hl=>by
  replace e:on (bY k l) (λr=>on (IG k n (dB k l)) λm=>some (r::m))=some rs:=e
  simp only [ah,dA] at e;obtain ⟨r,hr,m',hm,e⟩:=e;cases e
  obtain ⟨h1,rfl⟩:=bL _ _ _ hr;obtain ⟨q1,q2,q3⟩:=rC n _ _ hm (by rw [List.length_drop,hl,Nat.add_mul];omega);refine ⟨by rw [List.flatten_cons,q1,List.take_append_drop],λr hr=>?_,by simp [q3]⟩
  rcases List.mem_cons.1 hr with rfl | hr
  .rw [List.length_take];omega
  .exact q2 r hr
variable {β:Type} {r:β} {k:V->T Blk->P->Option β}
theorem yn (H:Rh w0 ρ h n w) {kk:Nat} {rs:List (List V)} {e:TypeId} {arr:Array Value} (hr:∀ r ∈ rs,r.length=kk) (hv:Rvs ρ rs.flatten arr.toList) {w':World} (ha:Al w w' (.cells arr e)) {len:Nat} (hlen:len<=rs.length) (ev:eB (.rows e kk false rs) (.sl n 0 len (some rs.length)) h n k=some r) :
  Kx w0 ρ r k (.slice (some ⟨w.heap.size,0,none⟩) len rs.length) w':=by
 refine ⟨_,_,_,_,Ren.le_put H.free,H.news H.free hr hv ha,?_,ev⟩;simp only [Rv];exact ⟨_,rs.length,0,Ren.put_same,by simp,PL.mkC,hlen,by simp⟩
theorem uq (H:Rh w0 ρ h n w) (f:Fr ρ m σ τ) {len:Nat} {parts:Array (Nat × Operand)} (ev:kV Pr t len parts.toList run σ h n k=some r):fU Pr (Go.Eng.ev m τ) w (.buildSlice t len parts) ty (Kx w0 ρ r k):=by
 unfold kV at ev
 cases hB:jY Pr t with
 | none=>rw [hB] at ev;cases ev
 | some a=>
  obtain ⟨e,kk,z⟩:=a
  rw [hB] at ev
  by_cases hsmall:len * kk<=16777216
  .simp only [hsmall,if_true] at ev
   simp only [ah,nD,jD] at ev
   obtain ⟨l,hl,rs,hrs,ev⟩:=ev
   obtain ⟨hu,hZ⟩:=iT hB
   obtain ⟨i,zr,hi,hz,hk,hpos,hzl,hzv⟩:=mT hZ
   simp only at hu hi hk hpos hzl hzv
   subst hk
   have hzv:=hzv ρ
   have hzs:zr.cells.size=i.size:=by have:=hzv.length;rw [Array.length_toList] at this;omega
   have hzero:Rvs ρ (List.replicate len z).flatten (madeCells zr.cells (len * i.size)).toList:=by
    rw [fP zr.cells len i.size hzs hpos];exact hzv.repeat len
   obtain ⟨arr',q1,q2,q3⟩:=kS f parts.toList _ l _ hl hzero
   have hll:l.length=len * i.size:=by rw [q3,fq (k:=i.size) _ (by intro r hr;rw [(List.mem_replicate.1 hr).2];exact hzl)];simp
   obtain ⟨g1,g2,g3⟩:=rC len l rs hrs hll
   have hrun:∀ w,(Instr.buildSlice t len (parts.map λ(i,x)=>(i,Go.Eng.ev m τ x))).run Pr w= .ok (.slice (some ⟨w.heap.size,0,none⟩) len len) (w.alloc (.cells arr'.toList.toArray e)):=by
    intro w;have hsm:¬ (2 ^ 24<len * i.size):=by omega
    have q1':Instr.fill (λj=>some (j * i.size,i.size)) ((Array.range (len * i.size)).map (zr.cells[· % zr.cells.size]!)) (List.map (λ(p:Nat × Operand)=>(p.1,Go.Eng.ev m τ p.2)) parts.toList)=some arr':=q1
    by_cases h0:len * i.size=0
    .rw [h0] at q1';have q1'':Instr.fill (λj=>some (j * i.size,i.size)) #[] (List.map (λ(p:Nat × Operand)=>(p.1,Go.Eng.ev m τ p.2)) parts.toList)=some arr':=by simpa [Array.range_zero'] using q1'
     simp [Instr.buildSlice,run_underlying hu,sizeOf,typeInfo,hi,h0,newRow,newObj,Sem.run,q1'',Array.range_zero']
    .simp [Instr.buildSlice,run_underlying hu,sizeOf,typeInfo,zeroValue,hi,hz,h0,hsm,newRow,newObj,Sem.run,q1']
   refine oD (e:=e) (cs:=arr'.toList) hrun λw' ha=>?_
   rw [← g3] at ev ⊢
   exact yn H g2 (arr:=arr'.toList.toArray) (by rw [g1];simpa using q2) ha (Nat.le_refl _) ev
  .simp only [hsmall,if_false] at ev
   cases ev
theorem wH (H:Rh w0 ρ h n w) (f:Fr ρ m σ τ) {x y:Operand} (ev:gB Pr t x y run σ h n k=some r):fU Pr (Go.Eng.ev m τ) w (.makeSlice t x y) ty (Kx w0 ρ r k):=by
 unfold gB at ev
 cases hB:jY Pr t with
 | none=>rw [hB] at ev;cases ev
 | some a=>
  obtain ⟨e,kk,z⟩:=a
  rw [hB] at ev
  simp only at ev
  simp only [ah,eQ,aj,jD] at ev
  obtain ⟨_,hx,_,hy,kl,l,rfl,kc,c,rfl,h1,h2,h3,ev⟩:=ev
  have h1:=Nat.le_of_ble_eq_true h1
  have h2:=Nat.le_of_ble_eq_true h2
  have h3:Nat.mul (mQ Pr e) c<=281474976710656:=Nat.le_of_ble_eq_true h3
  obtain ⟨hu,hZ⟩:=iT hB
  obtain ⟨i,zr,hi,hz,hk,hpos,hzl,hzv⟩:=mT hZ
  simp only at hu hi hk hpos hzl hzv
  subst hk
  have hzv:=hzv ρ
  have hzs:zr.cells.size=i.size:=by have:=hzv.length;rw [Array.length_toList] at this;omega
  have hx':=av f hx
  have hy':=av f hy
  simp only [Rv] at hx' hy'
  have hby:mQ Pr e=i.bytes:=by unfold mQ;rw [hi]
  rw [hby] at h3
  have h3':(i.bytes:Int) * (c:Int)<=281474976710656:=by
   have:((i.bytes * c:Nat):Int)<=((281474976710656:Nat):Int):=Int.ofNat_le.2 h3;rw [Int.natCast_mul] at this;exact this
  have hrun:=run_make (P:=Pr) w t e i zr hu hi hz kl kc (l:Int) (c:Int) (by omega) (by omega) h3' (by omega)
  simp only [Int.toNat_natCast] at hrun
  have hlen:(List.replicate c z).length=c:=by simp
  refine ⟨.slice (some ⟨w.heap.size,0,none⟩) l c,w.alloc (.cells (madeCells zr.cells (c * i.size)) e),?_,.inl λ_ _ _ _=>?_⟩
  rotate_left
  .have hx2:Go.Eng.ev m τ x= .int kl (l:Int):=hx'
   have hy2:Go.Eng.ev m τ y= .int kc (c:Int):=hy'
   simp only [execOp,hx2,hy2,Sem.run_bind,hrun,Result.andThen_ok,Sem.run_pure]
  .have:=yn H (kk:=i.size) (rs:=List.replicate c z) (e:=e) (arr:=madeCells zr.cells (c * i.size)) (λr hr=>by rw [(List.mem_replicate.1 hr).2];exact hzl) (by rw [fP zr.cells c i.size hzs hpos];exact hzv.repeat c) (w':=w.alloc (.cells (madeCells zr.cells (c * i.size)) e)) ⟨rfl⟩ (len:=l) (by rw [hlen];exact h1) (by rw [hlen];exact ev)
   rwa [hlen] at this
end
end Go.Lk
namespace Go.Lk
open Go.Eng Go.RowKit
structure KL (Pr:Program) (k:TypeId) (ok:Value->Prop):Prop where
 check:∀ (w:World) (em:Bool) (v:Value),ok v->(Instr.checkKey em 10000 k v).run Pr w= .ok () w
 find:∀ (w:World) (x:Value),ok x->∀ es:List MapEntry,(∀ e ∈ es,ok e.key)->((Instr.findKey k x es).run Pr w= .ok none w/\∀ e ∈ es,e.key≠x)\/∃ j e,(Instr.findKey k x es).run Pr w= .ok (some (j,e.val)) w/\es[j]?=some e/\e.key=x
 stays:∀ (w:World) (v:Value),ok v->(Instr.keyThatStays v v).run Pr w= .ok v w
theorem oC {kd:TypeDesc} {ok:Value->Prop} (hs:∀ x y,ok x->ok y->∃ b,Instr.sameNow kd x y=some b/\(b=true↔y=x)) {x:Value} (hx:ok x):∀ (es:List MapEntry) (i:Nat),(∀ e ∈ es,ok e.key)->
  (Instr.findNow kd x es i=some none/\∀ e ∈ es,e.key≠x)\/∃ j e,Instr.findNow kd x es i=some (some (i+j,e.val))/\es[j]?=some e/\e.key=x
 | [],i,_=>.inl ⟨rfl,by simp⟩
 | e::es,i,h=>by
  obtain ⟨b,hb,hiff⟩:=hs x e.key hx (h e List.mem_cons_self)
  cases b with
  | true=>exact .inr ⟨0,e,by simp [Instr.findNow,hb],rfl,hiff.1 rfl⟩
  | false=>
   have hne:e.key≠x:=λh'=>by have:=hiff.2 h';cases this
   rcases oC hs hx es (i+1) (λe' he=>h e' (List.mem_cons_of_mem _ he)) with ⟨h1,h2⟩ | ⟨j,e',h1,h2,h3⟩
   .refine .inl ⟨by simp [Instr.findNow,hb,h1],λe' he=>?_⟩
    rcases List.mem_cons.1 he with rfl | he
    .exact hne
    .exact h2 e' he
   .exact .inr ⟨j+1,e',by simp only [Instr.findNow,hb,h1];congr 3;omega,by simpa using h2,h3⟩
theorem KL.now {Pr:Program} {k:TypeId} {kd:TypeDesc} {ok:Value->Prop} (hu:Pr.underlying k=some kd) (hs:∀ x y,ok x->ok y->∃ b,Instr.sameNow kd x y=some b/\(b=true↔y=x))
  (hc:∀ (w:World) (em:Bool) (v:Value),ok v->(Instr.checkKey em (9999+1) k v).run Pr w= .ok () w) (hst:∀ v,ok v->Instr.sameBits (9999+1) v v=true):KL Pr k ok where
 check:=hc
 find w x hx es hes:=by
  rcases oC hs hx es 0 hes with ⟨h1,h2⟩ | ⟨j,e,h1,h2,h3⟩
  .exact .inl ⟨by simp [Instr.findKey,run_underlying hu,h1],h2⟩
  .exact .inr ⟨j,e,by simp [Instr.findKey,run_underlying hu,h1],h2,h3⟩
 stays w v hv:=by
  unfold Instr.keyThatStays;have h:Instr.sameBits 10000 v v=true:=hst v hv;rw [h];simp
theorem DH {Pr:Program} {k:TypeId} (hu:Pr.underlying k=some .string) (d:Nat) (w:World) (em:Bool) (s:ByteArray):(Instr.checkKey em (d+1) k (.string s)).run Pr w= .ok () w:=by simp [Instr.checkKey,run_underlying hu]
theorem J2 {Pr:Program} {k:TypeId} (hu:Pr.underlying k=some .bool) (d:Nat) (w:World) (em:Bool) (s:Bool):(Instr.checkKey em (d+1) k (.bool s)).run Pr w= .ok () w:=by simp [Instr.checkKey,run_underlying hu]
theorem Oo {Pr:Program} {k:TypeId} {q:IntKind} (hu:Pr.underlying k=some (.int q)) (d:Nat) (w:World) (em:Bool) (s:Int):(Instr.checkKey em (d+1) k (.int q s)).run Pr w= .ok () w:=by simp [Instr.checkKey,run_underlying hu]
theorem El {Pr:Program} {k:TypeId} (hu:Pr.underlying k=some .string):KL Pr k (λv=>∃ s,v= .string s):=
 KL.now hu (λx y ⟨s,hx⟩ ⟨s',hy⟩=>by subst hx hy;exact ⟨s == s',rfl,by rw [Go.MapKept.bytes_beq];constructor <;> intro h <;> (first | (subst h;rfl) | (cases h;rfl))⟩)
  (λw em v ⟨s,hv⟩=>by subst hv;exact DH hu 9999 w em s) (λv ⟨s,hv⟩=>by subst hv;simp only [Instr.sameBits];exact (Go.MapKept.bytes_beq s s).2 rfl)
theorem Kw {Pr:Program} {k:TypeId} (hu:Pr.underlying k=some .bool):KL Pr k (λv=>∃ s,v= .bool s):=
 KL.now hu (λx y ⟨s,hx⟩ ⟨s',hy⟩=>by subst hx hy;exact ⟨s == s',rfl,by rw [beq_iff_eq];constructor <;> intro h <;> (first | (subst h;rfl) | (cases h;rfl))⟩)
  (λw em v ⟨s,hv⟩=>by subst hv;exact J2 hu 9999 w em s) (λv ⟨s,hv⟩=>by subst hv;simp [Instr.sameBits])
theorem OD {Pr:Program} {k:TypeId} {q:IntKind} (hu:Pr.underlying k=some (.int q)):KL Pr k (λv=>∃ a,v= .int q a):=
 KL.now hu (λx y ⟨s,hx⟩ ⟨s',hy⟩=>by subst hx hy;exact ⟨s == s',by simp [Instr.sameNow],by rw [beq_iff_eq];constructor <;> intro h <;> (first | (subst h;rfl) | (cases h;rfl))⟩)
  (λw em v ⟨s,hv⟩=>by subst hv;exact Oo hu 9999 w em s) (λv ⟨s,hv⟩=>by subst hv;simp [Instr.sameBits])
theorem L8 {Pr:Program} {k:TypeId} (hw:iX Pr k=true):KL Pr k (λv=>∃ l,keyOf Pr k v=some l):=by
 obtain ⟨h1,h2,h3,h4⟩:=jU hw;have L:=deep_law (P:=Pr) (m:=40) (by omega) h1 h3 h4;exact ⟨λw em v ⟨l,h⟩=>L.check w em h,λw x ⟨l,h⟩ es hes=>L.find w h es hes,λw v ⟨l,h⟩=>L.stays w h⟩
theorem DW {Pr:Program} {k:TypeId} (hw:iX Pr k=true) {a:Array Value} (hf:(Value.agg a).formed Pr k=true) {ls:List Lit} (hl:Pr.keyLits (Pr.types.size+1) k a.toList=some ls):∃ l,keyOf Pr k (.agg a)=some l:=by
 obtain ⟨h1,h2,h3,h4⟩:=jU hw;unfold keyOf
 cases hu:Pr.underlying k with
 | none=>rw [hu] at h4;cases h4
 | some d=>
  rw [hu] at h4
  cases d <;> simp only at h4 <;> first | (cases h4;done) | skip
  .simp only [h2,hf,Bool.and_self,if_true,Value.cells,hl];exact ⟨_,rfl⟩
  .simp only [h2,hf,Bool.and_self,if_true,Value.cells,hl];exact ⟨_,rfl⟩
theorem P7 (Pr:Program) (k:TypeId):∃ ok,KL Pr k ok/\∀ (v:V) (ρ:Ren) (x:Value),ED Pr k v=true->Rv ρ v x->ok x:=by
 have dead:(∀ v,ED Pr k v=false)->∃ ok,KL Pr k ok/\∀ (v:V) (ρ:Ren) (x:Value),ED Pr k v=true->Rv ρ v x->ok x:=λh=>
  ⟨λ_=>False,⟨λ_ _ _ h=>h.elim,λ_ _ h=>h.elim,λ_ _ h=>h.elim⟩,λv ρ x hv=>by rw [h v] at hv;cases hv⟩
 have wide:(∀ v,ED Pr k v=(Bool.rec (λ_=>false) (iG Pr k) (iX Pr k):V->Bool) v)->∃ ok,KL Pr k ok/\∀ (v:V) (ρ:Ren) (x:Value),ED Pr k v=true->Rv ρ v x->ok x:=λh=>by
  cases hw:iX Pr k with
  | false=>exact dead λv=>by rw [h v,hw]
  | true=>
   refine ⟨_,L8 hw,λv ρ x hv hr=>?_⟩
   rw [h v,hw] at hv
   obtain ⟨a,rfl,hf,ls,hl⟩:=gJ hw hv hr
   exact DW hw hf hl
 cases hu:Pr.underlying k with
 | none=>exact wide λv=>by unfold ED;rw [hu]
 | some d=>
  cases d
  case string=>
   refine ⟨_,El hu,λv ρ x hv hr=>?_⟩
   unfold ED at hv;rw [hu] at hv
   cases v <;> first | (cases hv;done) | skip
   simp only [Rv] at hr
   obtain ⟨s,h,_⟩:=hr;exact ⟨s,h⟩
  case bool=>
   refine ⟨_,Kw hu,λv ρ x hv hr=>?_⟩
   unfold ED at hv;rw [hu] at hv
   exact xM hv hr
  case int q=>
   refine ⟨_,OD hu,λv ρ x hv hr=>?_⟩
   unfold ED at hv;rw [hu] at hv
   obtain ⟨a,h,_⟩:=xC hv hr
   exact ⟨a,h⟩
  all_goals exact wide λv=>by unfold ED;rw [hu]
section
variable {ρ:Ren} {Pr:Program} {m:Nat} {w0:Base} {w:World} {ty t t':TypeId} {σ:T V} {τ:Nat->Value} {h:T Blk} {n:P} {run:fG} {β:Type} {r:β}
abbrev ER (ρ:Ren) (e:iP) (x:MapEntry):Prop:=Rv ρ e.1 x.key/\Rv ρ e.2.1 x.val/\x.born=e.2.2
theorem HV {ok:V->Bool} {es:List iP}:Kr ok es=true↔∀ e ∈ es,ok e.1=true:=by
 induction es with
 | nil=>exact ⟨λ_ i h=>(by cases h),λ_=>rfl⟩
 | cons x fs ih=>
  have:Kr ok (x::fs)=(Bool.rec false (Kr ok fs) (ok x.1):Bool):=rfl
  rw [this]
  cases h:ok x.1 with
  | false=>exact ⟨λe=>(by cases e),λe=>by rw [e x (List.mem_cons_self)] at h;cases h⟩
  | true=>
   rw [ih]
   exact ⟨λe y hy=>by rcases List.mem_cons.1 hy with rfl | h';exact h;exact e y h',λe y hy=>e y (List.mem_cons_of_mem _ hy)⟩
theorem All2.mem {α γ:Type} {R:α->γ->Prop} {l:List α} {m:List γ} (a:All2 R l m) {y:γ} (hy:y ∈ m):∃ x ∈ l,R x y:=by
 induction a with
 | nil=>cases hy
 | cons h _ ih=>
  rcases List.mem_cons.1 hy with rfl | hy
  .exact ⟨_,List.mem_cons_self,h⟩
  .obtain ⟨x,hx,hr⟩:=ih hy;exact ⟨x,List.mem_cons_of_mem _ hx,hr⟩
theorem sJ {k:V} {f:Nat->iP->Option β} {g:Option β} {x:Value} (hk:Rv ρ k x):∀ (es:List iP) (l:List MapEntry) (i:Nat),All2 (ER ρ) es l->FV k f g es i=some r->
  (g=some r/\∀ e ∈ l,e.key≠x)\/∃ j e y,es[j]?=some e/\l[j]?=some y/\ER ρ e y/\y.key=x/\f (i+j) e=some r
 | [],_,i,a,e=>by cases a;exact .inl ⟨e,by simp⟩
 | v::es,_,i,a,e=>by
  cases a with
  | cons h1 h2=>
   rename_i y l
   replace e:on (nP k v.1) (λb=>Bool.rec (FV k f g es (Nat.succ i)) (f i v) b)=some r:=e
   rw [ah] at e
   obtain ⟨b,hb,e⟩:=e
   have hiff:=uE hb hk h1.1
   cases b with
   | true=>exact .inr ⟨0,v,y,rfl,rfl,h1,(hiff.1 rfl).symm,e⟩
   | false=>
    have hne:y.key≠x:=λh'=>by have:=hiff.2 h'.symm;cases this
    rcases sJ hk es l (i+1) h2 e with ⟨q1,q2⟩ | ⟨j,e',y',q1,q2,q3,q4,q5⟩
    .refine .inl ⟨q1,λe' he=>?_⟩
     rcases List.mem_cons.1 he with rfl | he
     .exact hne
     .exact q2 e' he
    .exact .inr ⟨j+1,e',y',by simpa using q1,by simpa using q2,q3,q4,by rw [show i+(j+1)=i+1+j by omega];exact q5⟩
theorem xB {l:List MapEntry} (hn:(l.map (·.key)).Nodup) {i j:Nat} {a b:MapEntry} (ha:l[i]?=some a) (hb:l[j]?=some b) (he:a.key=b.key):i=j:=by
 have h1:(l.map (·.key))[i]?=some a.key:=by simp [ha]
 have h2:(l.map (·.key))[j]?=some b.key:=by simp [hb]
 have hi:=(List.getElem?_eq_some_iff.1 h1).1;rw [← he,← h1] at h2;exact (List.getElem?_inj hi hn).1 h2.symm
theorem mq {kt:TypeId} {k:V} {f:Nat->iP->Option β} {g:Option β} {x:Value} (hk:Rv ρ k x) {es:List iP} {l:Array MapEntry} (ha:All2 (ER ρ) es l.toList) (hn:(l.toList.map (·.key)).Nodup) (e:pQ (ED Pr kt) k f g es=some r) (w:World) :
  (∀ em,(Instr.checkKey em 10000 kt x).run Pr w= .ok () w)/\(Instr.keyThatStays x x).run Pr w= .ok x w/\
  (((Instr.findKey kt x l.toList).run Pr w= .ok none w/\g=some r/\∀ e ∈ l.toList,e.key≠x)\/∃ j e y,(Instr.findKey kt x l.toList).run Pr w= .ok (some (j,y.val)) w/\es[j]?=some e/\l[j]?=some y/\ER ρ e y/\y.key=x/\f j e=some r):=by
 unfold pQ at e;rw [aj] at e;obtain ⟨h1,e⟩:=e;rw [aj] at e;obtain ⟨h2,e⟩:=e;obtain ⟨ok,hK,hok⟩:=P7 Pr kt;have hx:=hok k ρ x h1 hk
 have hes:∀ e ∈ l.toList,ok e.key:=λy hy=>by
  obtain ⟨a,ha',hr⟩:=ha.mem hy;exact hok a.1 ρ y.key (HV.1 h2 a ha') hr.1
 refine ⟨λem=>hK.check w em x hx,hK.stays w x hx,?_⟩
 rcases sJ hk es l.toList 0 ha e with ⟨q1,q2⟩ | ⟨j,e',y',q1,q2,q3,q4,q5⟩
 .rcases hK.find w x hx l.toList hes with ⟨p1,_⟩ | ⟨j,y,_,p2,p3⟩
  .exact .inl ⟨p1,q1,q2⟩
  .exact absurd p3 (q2 y (List.mem_of_getElem? p2))
 .rcases hK.find w x hx l.toList hes with ⟨_,p2⟩ | ⟨j2,y,p1,p2,p3⟩
  .exact absurd q4 (p2 y' (List.mem_of_getElem? q2))
  .have:=xB hn q2 p2 (q4.trans p3.symm);subst this;rw [q2] at p2;cases p2
   exact .inr ⟨j,e',y',p1,q1,by rw [← Array.getElem?_toList];exact q2,q3,q4,by simpa using q5⟩
end
end Go.Lk
namespace Go.Lk
open Go.Eng Go.RowKit
section
variable {ρ:Ren} {Pr:Program} {m:Nat} {w0:Base} {w:World} {ty t t':TypeId} {σ:T V} {τ:Nat->Value} {h:T Blk} {n:P} {run:fG} {β:Type} {r:β} {kc:V->T Blk->P->Option β}
theorem JT (t:TypeId):(∃ k e,Pr.underlying t=some (.map k e)/\nj Pr t=ED Pr k/\iA Pr t=pR Pr e)\/nj Pr t=λ_=>false:=by
 cases hu:Pr.underlying t with
 | none=>exact .inr (by unfold nj;rw [hu])
 | some d=>
  cases d
  case map k e=>exact .inl ⟨k,e,rfl,by unfold nj;rw [hu],by unfold iA;rw [hu]⟩
  all_goals exact .inr (by unfold nj;rw [hu])
theorem bA {b:P} {f:List iP->Nat->Option β} (e:dH h b f=some r):∃ es c,T.get b h=some (.map es c)/\f es c=some r:=by
 unfold dH at e;simp only [ah,yf] at e;obtain ⟨B,hB,es,c,rfl,e⟩:=e;exact ⟨es,c,hB,e⟩
theorem mF {k:V} {f:Nat->iP->Option β} {g:Option β} {es:List iP}:pQ (λ_=>false) k f g es≠some r:=by
 intro e;unfold pQ at e;cases e
theorem Iq (H:Rh w0 ρ h n w) (f:Fr ρ m σ τ) {mo ko:Operand} {ok:Bool} {v:V} (e:(on (aJ mo σ) λm=>on (aJ ko σ) λk=>CB (nj Pr t) (iA Pr t) ok m k h)=some v):∃ u,Ex Pr (ev m τ) w (.lookup t mo ko ok) ty u/\Rv ρ v u:=by
 simp only [ah] at e;obtain ⟨mv,hm,kv,hk,e⟩:=e;have hM:=av f hm;have hK:=av f hk;unfold CB at e;rw [bD] at e
 have miss:∀ (z:V) (zr:Value),Rv ρ z zr->some (Bool.rec z (.tup [z,.bool false]) ok:V)=some v->Rv ρ v (if ok then .tuple #[zr,.bool false] else zr):=λz zr hz e=>by
  cases ok with
  | false=>cases e;exact hz
  | true=>cases e;simp only [if_true,Rv];exact ⟨_,rfl,by simp only [Rvs,Rv];exact ⟨_,_,rfl,hz,_,_,rfl,rfl,rfl⟩⟩
 rcases e with ⟨rfl,e⟩ | ⟨b,rfl,e⟩
 .rw [aj,ah] at e;obtain ⟨h1,z,hz,e⟩:=e
  rcases JT (Pr:=Pr) t with ⟨k,el,hu,q1,q2⟩ | q
  .rw [q1] at h1;rw [q2] at hz;obtain ⟨zr,hzr,hzv⟩:=jS (ρ:=ρ) hz;have hzr':=hzr w;simp only [Rv] at hM;obtain ⟨okk,hKL,hokk⟩:=P7 Pr k;have hx:=hokk kv ρ _ h1 hK;have hck:=hKL.check w true _ hx;refine ⟨_,λ_ _ _ _=>?_,miss z zr hzv e⟩
   rcases hKL.find w _ hx [] (by simp) with ⟨p1,_⟩ | ⟨j,y,_,p2,_⟩
   .simp [execOp,hM,Instr.lookup,run_underlying hu,hck,p1,hzr']
   .simp at p2
  .rw [q] at h1;cases h1
 .obtain ⟨es,c,hB,e⟩:=bA (r:=v) e;simp only [Rv] at hM;obtain ⟨L,hL,hM⟩:=hM;obtain ⟨l,hl,ha,hn⟩:=H.live b _ L hB hL
  rcases JT (Pr:=Pr) t with ⟨k,el,hu,q1,q2⟩ | q
  .rw [q1] at e;obtain ⟨hck,_,hf⟩:=mq (r:=v) hK ha hn e w;have hck:=hck l.isEmpty;have hget:(getObj L.c).run Pr w= .ok (.map l c) w:=by simp [getObj,Sem.run,hl]
   rcases hf with ⟨p1,p2,_⟩ | ⟨j,e',y,p1,p2,p3,p4,p5,p6⟩
   .rw [ah] at p2;obtain ⟨z,hz,p2⟩:=p2;rw [q2] at hz;obtain ⟨zr,hzr,hzv⟩:=jS (ρ:=ρ) hz;have hzr':=hzr w;exact ⟨_,λ_ _ _ _=>by simp [execOp,hM,Instr.lookup,run_underlying hu,hget,hck,p1,hzr'],miss z zr hzv p2⟩
   .refine ⟨if ok then .tuple #[y.val,.bool true] else y.val,λ_ _ _ _=>by simp [execOp,hM,Instr.lookup,run_underlying hu,hget,hck,p1],?_⟩
    cases ok with
    | false=>cases p6;exact p4.2.1
    | true=>cases p6;simp only [if_true,Rv];exact ⟨_,rfl,by simp only [Rvs,Rv];exact ⟨_,_,rfl,p4.2.1,_,_,rfl,rfl,rfl⟩⟩
  .rw [q] at e;exact absurd e mF
theorem eX {b:Nat} {o o':Obj} (ho:w.heap[b]?=some o) (hnc:∀ c e f,o≠.cells c e f):(setObj b o').run Pr w= .ok () { w with heap:=w.heap.setIfInBounds b o' }:=by
 cases o <;> first | exact absurd rfl (hnc _ _ _) | simp [setObj,Sem.run,ho]
theorem All2.length_eq {α γ:Type} {R:α->γ->Prop} {l:List α} {m:List γ} (a:All2 R l m):l.length=m.length:=by
 induction a with
 | nil=>rfl
 | cons _ _ ih=>simp [ih]
theorem All2.append2 {α γ:Type} {R:α->γ->Prop} {l l':List α} {m m':List γ} (a:All2 R l m) (b:All2 R l' m'):All2 R (l++l') (m++m'):=by
 induction a with
 | nil=>exact b
 | cons h _ ih=>exact .cons h ih
theorem All2.set2 {α γ:Type} {R:α->γ->Prop} {l:List α} {m:List γ} (a:All2 R l m) {x:α} {y:γ} (h:R x y) (i:Nat):All2 R (l.set i x) (m.set i y):=by
 induction a generalizing i with
 | nil=>exact .nil
 | cons h1 t ih=>cases i with
  | zero=>exact .cons h t
  | succ i=>exact .cons h1 (ih i)
theorem kM (H:Rh w0 ρ h n w) {b:P} {L:Loc} {es es':List iP} {c c':Nat} (hB:T.get b h=some (.map es c)) (hL:ρ b=some L) {l':Array MapEntry} (ha:All2 (ER ρ) es' l'.toList) (hn:(l'.toList.map (·.key)).Nodup) :
  Rh w0 ρ (kF b es' c' h) n { w with heap:=w.heap.setIfInBounds L.c (.map l' c') }:=by
 obtain ⟨l,hl,_⟩:=H.live b _ L hB hL;exact H.turn hB hL ⟨(Array.getElem?_eq_some_iff.1 hl).1,rfl⟩ ⟨l',rfl,ha,hn⟩
theorem xO {es:List iP} {l:Array MapEntry} {c:Nat} {k v:V} {K X:Value} (ha:All2 (ER ρ) es l.toList) (hn:(l.toList.map (·.key)).Nodup) (hk:Rv ρ k K) (hv:Rv ρ v X) (hno:∀ e ∈ l.toList,e.key≠K) :
  All2 (ER ρ) (fF es [(k,v,c)]) (l.push { key:=K,val:=X,born:=c }).toList/\((l.push { key:=K,val:=X,born:=c }).toList.map (·.key)).Nodup:=by
 rw [il,Array.toList_push];refine ⟨ha.append2 (.cons ⟨hk,hv,rfl⟩ .nil),?_⟩;rw [List.map_append,List.nodup_append];refine ⟨hn,by simp,λa ha b hb=>?_⟩;simp only [List.map_cons,List.map_nil,List.mem_singleton] at hb;subst hb;obtain ⟨e,he,rfl⟩:=List.mem_map.1 ha;exact hno e he
theorem Mf {es es':List iP} {l:Array MapEntry} {j:Nat} {e:iP} {y:MapEntry} {v:V} {X:Value} (ha:All2 (ER ρ) es l.toList) (hn:(l.toList.map (·.key)).Nodup) (hy:l[j]?=some y) (hr:ER ρ e y) (hv:Rv ρ v X) (he:FX (e.1,v,e.2.2) j es=some es') :
  All2 (ER ρ) es' (l.modify j λe=>{ e with key:=y.key,val:=X }).toList/\((l.modify j λe=>{ e with key:=y.key,val:=X }).toList.map (·.key)).Nodup:=by
 rw [Ct] at he
 split at he
 .cases he
  have hl:(l.modify j λe=>{ e with key:=y.key,val:=X }).toList=l.toList.set j { y with val:=X }:=by
   apply List.ext_getElem?;intro q;rw [Array.getElem?_toList,Array.getElem?_modify,List.getElem?_set]
   by_cases hq:j=q
   .subst hq;rw [if_pos rfl,if_pos rfl,hy,if_pos (by rw [Array.length_toList];exact (Array.getElem?_eq_some_iff.1 hy).1)];rfl
   .rw [if_neg hq,if_neg hq,Array.getElem?_toList]
  rw [hl];refine ⟨ha.set2 (x:=(e.1,v,e.2.2)) (y:={ y with val:=X }) ⟨hr.1,hv,hr.2.2⟩ j,?_⟩
  have:(l.toList.set j { y with val:=X }).map (·.key)=l.toList.map (·.key):=by
   rw [List.map_set];apply List.ext_getElem?;intro q;rw [List.getElem?_set]
   by_cases hq:j=q
   .subst hq;have hy':l.toList[j]?=some y:=by rw [Array.getElem?_toList];exact hy
    rw [if_pos rfl,List.getElem?_map,hy']
    split
    .rfl
    .rename_i hlt;simp only [List.length_map] at hlt;exact absurd (List.getElem?_eq_some_iff.1 hy').1 hlt
   .rw [if_neg hq]
  rw [this];exact hn
 .cases he
theorem Jo (H:Rh w0 ρ h n w) {mv kv vv:V} {M K X:Value} (hM:Rv ρ mv M) (hK:Rv ρ kv K) (hX:Rv ρ vv X) {h':T Blk} (e:Gh (nj Pr t) mv kv vv h=some h'):∃ w',(Instr.mapUpdate t M K X).run Pr w= .ok () w'/\Rh w0 ρ h' n w':=by
 unfold Gh at e;rw [bD] at e
 rcases e with ⟨_,e⟩ | ⟨b,rfl,e⟩
 .cases e
 .obtain ⟨es,c,hB,e⟩:=bA (r:=h') e;simp only [Rv] at hM;obtain ⟨L,hL,rfl⟩:=hM;obtain ⟨l,hl,ha,hn⟩:=H.live b _ L hB hL
  rcases JT (Pr:=Pr) t with ⟨k,el,hu,q1,q2⟩ | q
  .rw [q1] at e;obtain ⟨hck,hst,hf⟩:=mq (r:=h') hK ha hn e w;have hck:=hck false;have hget:(getObj L.c).run Pr w= .ok (.map l c) w:=by simp [getObj,Sem.run,hl]
   rcases hf with ⟨p1,p2,p3⟩ | ⟨j,e',y,p1,p2,p3,p4,p5,p6⟩
   .cases p2
    obtain ⟨g1,g2⟩:=xO (c:=c) ha hn hK hX p3;exact ⟨_,by simp [Instr.mapUpdate,run_underlying hu,hget,hck,p1,eX hl (by intros;simp)],kM H hB hL g1 g2⟩
   .rw [ah] at p6;obtain ⟨es',hs,p6⟩:=p6;cases p6
    obtain ⟨g1,g2⟩:=Mf ha hn p3 p4 hX hs;subst p5;exact ⟨_,by simp [Instr.mapUpdate,run_underlying hu,hget,hck,p1,p3,hst,eX hl (by intros;simp)],kM H hB hL g1 g2⟩
  .rw [q] at e;exact absurd e mF
theorem mV (H:Rh w0 ρ h n w) (f:Fr ρ m σ τ) {mo ko vo:Operand} (e:(on (aJ mo σ) λm=>on (aJ ko σ) λk=>on (aJ vo σ) λv=>on (Gh (nj Pr t) m k v h) λh'=>kc aS h' n)=some r) :
  fU Pr (ev m τ) w (.mapUpdate t mo ko vo) ty (Kx w0 ρ r kc)/\fU Pr (ev m τ) w (.insert t mo ko vo) ty (Kx w0 ρ r kc):=by
 simp only [ah] at e;obtain ⟨mv,hm,kv,hk,vv,hv,h',hu,e⟩:=e;obtain ⟨w',hrun,H'⟩:=Jo H (av f hm) (av f hk) (av f hv) hu;exact ⟨⟨undef,w',⟨ρ,aS,h',n,.refl _,H',fK,e⟩,.inr ⟨rfl,λ_ _ _ _=>by simp [execOp,hrun]⟩⟩,⟨undef,w',⟨ρ,aS,h',n,.refl _,H',fK,e⟩,.inr ⟨rfl,λ_ _ _ _=>by simp [execOp,hrun]⟩⟩⟩
theorem zZ (H:Rh w0 ρ h n w) (e:eB (.map [] 0) (.map n) h n kc=some r):fU Pr (ev m τ) w (.makeMap t none) ty (Kx w0 ρ r kc):=by
 refine ⟨.map (some w.heap.size),w.alloc (.map #[] 0),?_,.inl λ_ _ _ _=>by simp [execOp,Instr.makeMap,newObj,Sem.run]⟩;refine ⟨ρ.put n ⟨w.heap.size,0,0,0⟩,_,_,_,Ren.le_put H.free,H.grow ⟨rfl⟩ (.inr rfl) H.free (by rw [P.num_succ];omega) (by rw [P.num_succ];omega) rfl (B:=.map [] 0) ⟨#[],rfl,.nil,by simp⟩,?_,e⟩;simp only [Rv];exact ⟨_,Ren.put_same,rfl⟩
end
end Go.Lk
namespace Go.Lk
open Go.Eng Go.RowKit
section
variable {ρ:Ren} {Pr:Program} {m:Nat} {w0:Base} {w:World} {ty t t':TypeId} {σ:T V} {τ:Nat->Value} {h:T Blk} {n:P} {run:fG} {β:Type} {r:β} {kc:V->T Blk->P->Option β}
theorem yH {f:List Nat->Nat->Option β} {B:Blk} (e:Blk.onStrI f B=some r):∃ l p,B= .strIter l p/\f l p=some r:=by
 cases B <;> first | exact ⟨_,_,rfl,e⟩ | cases e
theorem qj {f:Option P->Nat->List Nat->Nat->Option β} {B:Blk} (e:Blk.onMapI f B=some r):∃ m s q l,B= .mapIter m s q l/\f m s q l=some r:=by
 cases B <;> first | exact ⟨_,_,_,_,rfl,e⟩ | cases e
theorem xx (H:Rh w0 ρ h n w) {B:Blk} {o:Obj} (hB:Rb ρ ⟨w.heap.size,0,0,0⟩ (some o) B) (e:eB B (.ptr n 0 0) h n kc=some r):Kx w0 ρ r kc (.pointer (some ⟨w.heap.size,0,none⟩)) (w.alloc o):=by
 refine ⟨ρ.put n ⟨w.heap.size,0,0,0⟩,_,_,_,Ren.le_put H.free,H.grow ⟨rfl⟩ (.inr rfl) H.free (by rw [P.num_succ];omega) (by rw [P.num_succ];omega) rfl (hB.mono (Ren.le_put H.free)),?_,e⟩;simp only [Rv];exact ⟨_,Ren.put_same,by simp⟩
theorem GA (H:Rh w0 ρ h n w) (f:Fr ρ m σ τ) {x:Operand} (e:(on (aJ x σ) λv=>v7 Pr t v h n kc)=some r):fU Pr (ev m τ) w (.range t x) ty (Kx w0 ρ r kc):=by
 rw [ah] at e;obtain ⟨v,hv,e⟩:=e;have hx:=av f hv;unfold v7 at e
 cases hu:Pr.underlying t with
 | none=>rw [hu] at e;cases e
 | some d=>
  rw [hu] at e
  cases d <;> first | (cases e;done) | skip
  .replace e:V.onStr (λl=>eB (.strIter l 0) (.ptr n 0 0) h n kc) v=some r:=e
   rw [bV] at e
   obtain ⟨l,rfl,e⟩:=e
   simp only [Rv] at hx
   obtain ⟨s,hx,hl⟩:=hx
   refine ⟨_,_,xx H (B:=.strIter l 0) (o:=.stringIter s 0) ⟨rfl,s,rfl,by simpa using hl⟩ e,.inl λ_ _ _ _=>?_⟩
   simp [execOp,hx,Instr.range,run_underlying hu,newObj,Sem.run]
  .replace e:V.onMap (eB (.mapIter none 0 [] 0) (.ptr n 0 0) h n kc) (λb=>dH h b λ_ c=>eB (.mapIter (some b) c [] c) (.ptr n 0 0) h n kc) v=some r:=e
   rw [bD] at e
   rcases e with ⟨rfl,e⟩ | ⟨b,rfl,e⟩
   .simp only [Rv] at hx
    refine ⟨_,_,xx H (B:=.mapIter none 0 [] 0) (o:=.mapIter none 0 #[] 0) ⟨rfl,none,rfl,rfl⟩ e,.inl λ_ _ _ _=>?_⟩
    simp [execOp,hx,Instr.range,run_underlying hu,newObj,Sem.run]
   .obtain ⟨es,c,hB,e⟩:=bA e
    simp only [Rv] at hx
    obtain ⟨L,hL,hx⟩:=hx
    obtain ⟨l,hl,_⟩:=H.live b _ L hB hL
    refine ⟨_,_,xx H (B:=.mapIter (some b) c [] c) (o:=.mapIter (some L.c) c #[] c) ⟨rfl,some L.c,rfl,L,hL,rfl⟩ e,.inl λ_ _ _ _=>?_⟩
    simp [execOp,hx,Instr.range,run_underlying hu,newObj,getObj,hl,Sem.run]
theorem wo (f:Fr ρ m σ τ) {x:Operand} {b:P} {i:Nat} (hx:aJ x σ=some (.ptr b i 0)) {L:Loc} (hL:ρ b=some L) (hk:L.k=0):ev m τ x= .pointer (some ⟨L.c,0,none⟩):=by
 have h:=av f hx;simp only [Rv] at h;obtain ⟨L',hL',h⟩:=h;rw [hL] at hL';cases hL'
 rw [h,hk];simp
theorem xg {s:ByteArray} {p:Nat} (hp:p<s.size) (h:(s[p]).toNat<128):Utf8.decode s p=((s[p]).toNat,1):=by
 unfold Utf8.decode;have:s.get! (p+0)=s[p]:=by simp [ByteArray.get!,hp];rfl
 simp only [this];rw [if_pos h]
theorem Fg [Jn β] (H:Rh w0 ρ h n w) (f:Fr ρ m σ τ) {x:Operand} (e:FQ x true run σ h n kc=some r):fU Pr (ev m τ) w (.next x true) ty (Kx w0 ρ r kc):=by
 replace e:on (aJ x σ) (V.onPtr λr' _ j=>Bool.rec none (on (T.get r' h) (Blk.onStrI λl p=>Cv r' l p h n kc)) (Nat.beq j 0))=some r:=e
 simp only [ah,bE,aj] at e;obtain ⟨_,hx,b,i,j,rfl,hj,B,hB,e⟩:=e;have hj:=Nat.eq_of_beq_eq_true hj;subst hj;obtain ⟨l,p,rfl,e⟩:=yH e;have hv:=av f hx;simp only [Rv] at hv;obtain ⟨L,hL,_⟩:=hv;obtain ⟨hk,s,ho,hl⟩:=H.live b _ L hB hL;have hxv:=wo f hx hL hk;refine BN hxv ho (λhp=>?_) λhp w' hpt=>?_
 .have:l=[]:=by rw [← hl];exact List.drop_eq_nil_of_le (by rw [aX];omega)
  subst this;exact ⟨ρ,.tup [.bool false],h,n,.refl _,H,by simp only [Rv];exact ⟨_,rfl,by simp only [Rvs,Rv];exact ⟨_,_,rfl,rfl,rfl⟩⟩,e⟩
 .have hd:l=(s[p]).toNat::(aH s).drop (p+1):=by
   rw [← hl,List.drop_eq_getElem_cons (by rw [aX];exact hp)]
   congr 1;simp [aH];rfl
  rw [hd] at e
  replace e:Bool.rec none (kc (.tup [.bool true,.int .i64 (.ofNat p),.int .i32 (.ofNat (s[p]).toNat)]) (T.put (some (.strIter ((aH s).drop (p+1)) (Nat.succ p))) b h) n) (Nat.blt (s[p]).toNat 128)=some r:=e
  rw [aj,dm] at e;obtain ⟨h128,e⟩:=e;have h128:=of_decide_eq_true h128;rw [xg hp h128] at hpt ⊢;refine ⟨ρ,_,_,n,.refl _,H.turn hB hL hpt (B:=.strIter ((aH s).drop (p+1)) (p+1)) ⟨hk,s,rfl,rfl⟩,?_,e⟩;simp only [Rv];exact ⟨_,rfl,by simp only [Rvs,Rv];exact ⟨_,_,rfl,rfl,_,_,rfl,rfl,_,_,rfl,rfl,rfl⟩⟩
theorem nM (x:Nat) (l:List Nat):qz x l=l.contains x:=by
 induction l with
 | nil=>rfl
 | cons a l ih=>
  show (Bool.rec (qz x l) true (Nat.beq a x):Bool)=_
  rw [ih,List.contains_cons,jf]
  by_cases h:a=x
  .subst h;simp
  .have h2:(x == a)=false:=by simp;exact λe=>h e.symm
   rw [decide_eq_false h,h2];simp
theorem Br {seen:List Nat} {es:List iP} {l:List MapEntry} (a:All2 (ER ρ) es l):All2 (ER ρ) (oW seen es) (l.filter λe=>!(seen.reverse.toArray.contains e.born)):=by
 induction a with
 | nil=>exact .nil
 | cons h1 h2 ih=>
  rename_i e y es l
  show All2 (ER ρ) (Bool.rec (e::oW seen es) (oW seen es) (qz e.2.2 seen)) _
  rw [nM,List.filter_cons]
  have hc:seen.reverse.toArray.contains y.born=seen.contains e.2.2:=by rw [h1.2.2];simp
  rw [hc]
  cases seen.contains e.2.2 with
  | true=>exact ih
  | false=>exact .cons h1 ih
theorem EO {last:Nat} {es:List iP} {l:List MapEntry} (a:All2 (ER ρ) es l) (e:CP last es=true):l.all (λy=>decide (y.born>=last))=false:=by
 induction a with
 | nil=>cases e
 | cons h1 h2 ih=>
  rename_i v y es l
  replace e:(Bool.rec (CP last es) true (Nat.blt v.2.2 last):Bool)=true:=e
  rw [List.all_cons]
  cases hb:Nat.blt v.2.2 last with
  | true=>
   rw [dm] at hb
   have:=of_decide_eq_true hb
   have h3:decide (y.born>=last)=false:=decide_eq_false (by rw [h1.2.2];omega)
   rw [h3];rfl
  | false=>rw [hb] at e;rw [ih e];simp
theorem zW {seen:List Nat} {last:Nat} {es:List iP} {l:Array MapEntry} (a:All2 (ER ρ) es l.toList) (e:F3 seen es last=true):(!seen.reverse.toArray.isEmpty && !l.isEmpty && l.all (λy=>decide (y.born>=last)))=false:=by
 cases seen with
 | nil=>simp
 | cons s q=>
  cases es with
  | nil=>
   have:l=#[]:=by
    have:=a.length_eq;simp at this;exact Array.eq_empty_of_size_eq_zero this.symm
   subst this;simp
  | cons x es=>
   have e:CP last (x::es)=true:=e
   have:=EO a e
   rw [Array.all_toList] at this
   rw [this];simp
end
end Go.Lk
namespace Go.Lk
open Go.Eng Go.RowKit
section
variable {ρ:Ren} {Pr:Program} {m:Nat} {w0:Base} {w:World} {ty t t':TypeId} {σ:T V} {τ:Nat->Value} {h:T Blk} {n:P} {run:fG} {β:Type} [Jn β] [JnOK β] {r:β} {kc:V->T Blk->P->Option β}
theorem All2.mem_right {α γ:Type} {R:α->γ->Prop} {l:List α} {m:List γ} (a:All2 R l m) {y:γ} (hy:y ∈ m):∃ x,x ∈ l/\R x y:=by
 induction a with
 | nil=>cases hy
 | cons h _ ih=>
  rcases List.mem_cons.1 hy with rfl | hy
  .exact ⟨_,List.mem_cons_self ..,h⟩
  .obtain ⟨x,hx,hr⟩:=ih hy;exact ⟨x,List.mem_cons_of_mem _ hx,hr⟩
theorem D4 {ri mc:Nat} {since last c:Nat} {seenA:Array Nat} {l ys:Array MapEntry} (hit:w.heap[ri]?=some (.mapIter (some mc) since seenA last)) (hm:w.heap[mc]?=some (.map l c)) (hstep:(!seenA.isEmpty && !l.isEmpty && l.all (λy=>decide (y.born>=last)))=false)
  (hleft:l.filter (λe=>!seenA.contains e.born)=ys) (h0:0<ys.size) (hb:∀ y ∈ ys,y.born<since):∃ y,y ∈ ys/\∃ w1,(w1=w\/w1=w.drew)/\(Instr.next (.pointer (some ⟨ri,0,none⟩)) false ty).run Pr w= .ok (.tuple #[.bool true,y.key,y.val]) { w1 with heap:=w1.heap.setIfInBounds ri (.mapIter (some mc) since (seenA.push y.born) c) }:=by
 have g1:(getObj ri).run Pr w= .ok (.mapIter (some mc) since seenA last) w:=by simp [getObj,Sem.run,hit]
 have g2:(getObj mc).run Pr w= .ok (.map l c) w:=by simp [getObj,Sem.run,hm]
 have f1:ys.filter (λe=>decide (e.born<since))=ys:=by
  apply Array.ext';rw [Array.toList_filter,List.filter_eq_self];intro y hy
  simpa using hb y (by simpa using hy)
 have f2:ys.filter (λe=>decide (e.born>=since))=#[]:=by
  apply Array.ext';rw [Array.toList_filter,List.filter_eq_nil_iff];intro y hy;have:=hb y (by simpa using hy);simp;omega
 have hne:ys.isEmpty=false:=by rw [Array.isEmpty_eq_false_iff];intro h;subst h;simp at h0
 have hch:∃ i w1,i<ys.size/\(w1=w\/w1=w.drew)/\(choose (.mapNext ys.size)).run Pr w= .ok i w1:=by
  rw [run_choose_drew]
  split
  .exact ⟨0,w,h0,.inl rfl,rfl⟩
  .exact ⟨_,w.drew,Nat.mod_lt _ h0,.inr rfl,rfl⟩
 obtain ⟨i,w1,hi,hw1,hrun⟩:=hch
 have g3:(setObj ri (.mapIter (some mc) since (seenA.push ys[i].born) c)).run Pr w1= .ok () { w1 with heap:=w1.heap.setIfInBounds ri (.mapIter (some mc) since (seenA.push ys[i].born) c) }:=by
  have hit1:w1.heap[ri]?=some (.mapIter (some mc) since seenA last):=by rcases hw1 with rfl | rfl <;> exact hit
  exact eX hit1 (by intros;simp)
 refine ⟨ys[i],Array.getElem_mem hi,w1,hw1,?_⟩;simp only [Instr.next,Sem.run_bind,g1,Result.andThen_ok,g2,hstep,Bool.false_eq_true,if_false,hleft,f1,f2,hne,Array.append_empty,Array.empty_append,Array.size_map,hrun,Array.getElem?_map,Array.getElem?_eq_getElem hi,Option.map_some,g3,Sem.run_pure]
theorem nY {f:iP->Option β}:∀ {l:List iP} {r:β},qC f l=some r->∀ e ∈ l,f e=some r
 | [],_,h,_,_=>by cases h
 | [x],r,h,e,he=>by
  have:e=x:=by simpa using he
  subst this;exact h
 | x::y::l,r,h,e,he=>by
  have h:Jn.j (f x) (qC f (y::l))=some r:=h;obtain ⟨h1,h2⟩:=JnOK.ok _ _ _ h
  rcases List.mem_cons.1 he with rfl | he
  .exact h1
  .exact nY h2 e he
theorem EL {ri mc:Nat} {since last c:Nat} {seenA:Array Nat} {l:Array MapEntry} (hit:w.heap[ri]?=some (.mapIter (some mc) since seenA last)) (hm:w.heap[mc]?=some (.map l c)) (hstep:(!seenA.isEmpty && !l.isEmpty && l.all (λy=>decide (y.born>=last)))=false)
  (hleft:l.filter (λe=>!seenA.contains e.born)=#[]):(Instr.next (.pointer (some ⟨ri,0,none⟩)) false ty).run Pr w= .ok (.tuple #[.bool false]) w:=by
 have g1:(getObj ri).run Pr w= .ok (.mapIter (some mc) since seenA last) w:=by simp [getObj,Sem.run,hit]
 have g2:(getObj mc).run Pr w= .ok (.map l c) w:=by simp [getObj,Sem.run,hm]
 simp only [Instr.next,Sem.run_bind,g1,Result.andThen_ok,g2,hstep,Bool.false_eq_true,if_false,hleft];simp [Question.forced]
theorem EJ (H:Rh w0 ρ h n w) (f:Fr ρ m σ τ) {x:Operand} (e:FQ x false run σ h n kc=some r):fU Pr (ev m τ) w (.next x false) ty (Kx w0 ρ r kc):=by
 replace e:on (aJ x σ) (V.onPtr λr' _ j=>Bool.rec none (on (T.get r' h) (Blk.onMapI λm since seen last=>Option.rec (kc (.tup [.bool false]) h n) (λm=>qQ r' m since seen last h n kc) m)) (Nat.beq j 0))=some r:=e
 simp only [ah,bE,aj] at e;obtain ⟨_,hx,b,i,j,rfl,hj,B,hB,e⟩:=e;have hj:=Nat.eq_of_beq_eq_true hj;subst hj;obtain ⟨mo,since,seen,last,rfl,e⟩:=qj e;have hv:=av f hx;simp only [Rv] at hv;obtain ⟨L,hL,_⟩:=hv;obtain ⟨hk,rr,ho,hm⟩:=H.live b _ L hB hL;have hxv:=wo f hx hL hk;have Bz:kc (.tup [.bool false]) h n=some r->Kx w0 ρ r kc (.tuple #[.bool false]) w:=λe=>⟨ρ,.tup [.bool false],h,n,.refl _,H,by simp only [Rv];exact ⟨_,rfl,by simp only [Rvs,Rv];exact ⟨_,_,rfl,rfl,rfl⟩⟩,e⟩
 cases mo with
 | none=>
  simp only at hm
  subst hm
  exact ⟨_,w,Bz e,.inl λ_ _ _ _=>by simp [execOp,hxv,Instr.next,getObj,ho,Sem.run]⟩
 | some mb=>
  obtain ⟨M,hM,hm⟩:=hm
  subst hm
  replace e:qQ b mb since seen last h n kc=some r:=e
  unfold qQ at e
  obtain ⟨es,c,hMB,e⟩:=bA e
  rw [aj] at e
  obtain ⟨hst,e⟩:=e
  obtain ⟨l,hl,ha,hn⟩:=H.live mb _ M hMB hM
  have hstep:=zW ha hst
  have hun:=Br (seen:=seen) ha
  cases hus:oW seen es with
  | nil=>
   rw [hus] at e hun
   have hleft:l.filter (λe=>!seen.reverse.toArray.contains e.born)=#[]:=by
    apply Array.ext';rw [Array.toList_filter];have:=hun.length_eq;exact List.eq_nil_of_length_eq_zero this.symm
   have hrun:=EL (Pr:=Pr) (ty:=ty) ho hl hstep hleft
   exact ⟨_,w,Bz e,.inl λ_ _ _ _=>by simp [execOp,hxv,hrun]⟩
  | cons x1 rest=>
   rw [hus] at e
   replace e:qC (λe=>Bool.rec none (kc (.tup [.bool true,e.1,e.2.1]) (T.put (some (.mapIter (some mb) since (e.2.2::seen) c)) b h) n) (Nat.blt e.2.2 since)) (x1::rest)=some r:=e
   rw [← hus] at e
   generalize hfl:l.toList.filter (λe=>!seen.reverse.toArray.contains e.born)=fl at hun
   have hleft:l.filter (λe=>!seen.reverse.toArray.contains e.born)=fl.toArray:=by
    apply Array.ext';rw [Array.toList_filter];exact hfl
   have hall:=nY e
   have hborn:∀ y ∈ fl.toArray,y.born<since:=λy hy=>by
    obtain ⟨x,hx,hxy⟩:=hun.mem_right (by simpa using hy);have:=hall x hx;rw [aj,dm] at this;rw [hxy.2.2];exact of_decide_eq_true this.1
   have hlen:0<fl.toArray.size:=by
    have:=hun.length_eq;rw [hus] at this;simp only [List.length_cons,List.size_toArray] at this ⊢;omega
   obtain ⟨y,hy,w1,hw1,hrun⟩:=D4 (Pr:=Pr) (ty:=ty) ho hl hstep hleft hlen hborn
   obtain ⟨x,hx,g1⟩:=hun.mem_right (by simpa using hy)
   have e:=hall x hx
   rw [aj] at e
   have H1:Rh w0 ρ h n w1:=by rcases hw1 with rfl | rfl;exact H;exact H.drew
   have ho1:w1.heap[L.c]?=some (.mapIter (some M.c) since seen.reverse.toArray last):=by rcases hw1 with rfl | rfl <;> exact ho
   refine ⟨.tuple #[.bool true,y.key,y.val],{ w1 with heap:=w1.heap.setIfInBounds L.c (.mapIter (some M.c) since (seen.reverse.toArray.push y.born) c) },?_,.inl λ_ _ _ _=>by simp only [execOp,hxv,Sem.run_bind,hrun,Result.andThen_ok,Sem.run_pure]⟩
   refine ⟨ρ,_,_,n,.refl _,H1.turn hB hL ⟨(Array.getElem?_eq_some_iff.1 ho1).1,rfl⟩ (B:=.mapIter (some mb) since (x.2.2::seen) c) ⟨hk,some M.c,?_,M,hM,rfl⟩,?_,e.2⟩
   .rw [g1.2.2];simp
   .simp only [Rv]
    exact ⟨_,rfl,by simp only [Rvs,Rv];exact ⟨_,_,rfl,rfl,_,_,rfl,g1.1,_,_,rfl,g1.2.1,rfl⟩⟩
theorem JO {s:Nat} {es:List iP} {l:List MapEntry} {v:V} (a:All2 (ER ρ) es l) (e:QS s es=some v):∃ y,l.find? (λy=>y.born == s)=some y/\Rv ρ v (.tuple #[y.key,y.val]):=by
 induction a with
 | nil=>cases e
 | cons h1 h2 ih=>
  rename_i x y es l
  replace e:(Bool.rec (QS s es) (some (.tup [x.1,x.2.1])) (Nat.beq x.2.2 s):Option V)=some v:=e
  rw [List.find?_cons]
  cases hb:Nat.beq x.2.2 s with
  | true=>
   rw [hb] at e
   cases e
   have:=Nat.eq_of_beq_eq_true hb
   have h3:(y.born == s)=true:=by rw [h1.2.2,this];simp
   rw [h3]
   refine ⟨y,rfl,?_⟩
   simp only [Rv]
   exact ⟨_,rfl,by simp only [Rvs];exact ⟨_,_,rfl,h1.1,_,_,rfl,h1.2.1,rfl⟩⟩
  | false=>
   rw [hb] at e
   have h3:(y.born == s)=false:=by rw [jf] at hb;rw [h1.2.2];simpa using hb
   rw [h3]
   exact ih e
theorem Ku (H:Rh w0 ρ h n w) (f:Fr ρ m σ τ) {x:Operand} {v:V} (e:wh x σ h=some v):∃ u,Ex Pr (ev m τ) w (.entry x) ty u/\Rv ρ v u:=by
 unfold wh at e;simp only [ah,bE,aj] at e;obtain ⟨_,hx,b,i,j,rfl,hj,B,hB,e⟩:=e;have hj:=Nat.eq_of_beq_eq_true hj;subst hj;obtain ⟨mo,since,seen,last,rfl,e⟩:=qj e
 replace e:on mo (λm=>List.rec none (λs _ _=>dH h m λes c=>Bool.rec none (QS s es) (Nat.beq c last)) seen)=some v:=e
 rw [ah] at e;obtain ⟨mb,rfl,e⟩:=e;have hv:=av f hx;simp only [Rv] at hv;obtain ⟨L,hL,_⟩:=hv;obtain ⟨hk,rr,ho,M,hM,rfl⟩:=H.live b _ L hB hL;have hxv:=wo f hx hL hk
 cases seen with
 | nil=>cases e
 | cons s q=>
  replace e:dH h mb (λes c=>Bool.rec none (QS s es) (Nat.beq c last))=some v:=e
  obtain ⟨es,c,hMB,e3⟩:=bA (r:=v) e
  rw [aj] at e3
  obtain ⟨hc,e4⟩:=e3
  have hc:=Nat.eq_of_beq_eq_true hc
  subst hc
  obtain ⟨l,hl,ha,hn⟩:=H.live mb _ M hMB hM
  obtain ⟨y,hy,hr⟩:=JO ha e4
  have hfind:l.find? (λy=>y.born == s)=some y:=by rw [← Array.find?_toList];exact hy
  refine ⟨_,λ_ _ _ _=>?_,hr⟩
  simp [execOp,hxv,Instr.entry,getObj,ho,hl,Sem.run,hfind]
end
end Go.Lk
namespace Go.Lk
open Go.Eng Go.RowKit
section
variable {ρ:Ren} {Pr:Program} {m:Nat} {w0:Base} {w:World} {ty t t':TypeId} {σ:T V} {τ:Nat->Value} {h:T Blk} {n:P} {run:fG} {β:Type} {r:β} {kc:V->T Blk->P->Option β}
theorem qp (f:Fr ρ m σ τ) {x:Operand} {v:V} (e:(Bool.rec none (on (aJ x σ) λv=>some (.iface t v)) (Ci Pr t):Option V)=some v):∃ u,Ex Pr (ev m τ) w (.makeInterface t x) ty u/\Rv ρ v u:=by
 rw [aj,ah] at e;obtain ⟨hc,a,ha,e⟩:=e;cases e
 have hx:=av f ha;unfold Ci at hc;refine ⟨.iface t (ev m τ x),λ_ _ _ _=>?_,by simp only [Rv];exact ⟨_,rfl,hx⟩⟩
 cases hu:Pr.underlying t with
 | none=>rw [hu] at hc;cases hc
 | some d=>
  rw [hu] at hc
  cases d <;> first | (cases hc;done) | simp [execOp,Instr.makeInterface,run_underlying hu]
theorem mW (h:qK Pr t=true):∃ e,Pr.underlying t=some (.slice e)/\Pr.underlying e=some (.int .u8):=by
 unfold qK at h
 split at h
 .rename_i e hu;unfold PN at h
  split at h
  .rename_i he;exact ⟨e,hu,he⟩
  .cases h
 .cases h
theorem Gz {e:TypeId} (h:PN Pr e=true):Pr.underlying e=some (.int .u8):=by
 unfold PN at h
 split at h
 .assumption
 .cases h
theorem sI (s d:TypeId):(∀ k,gL Pr s d= .int k->(∃ u,Pr.underlying s=some u)/\Pr.underlying d=some (.int k))/\(gL Pr s d= .flt->(∃ u,Pr.underlying s=some u)/\Pr.underlying d=some (.float .f64))/\
  (∀ b,gL Pr s d= .str b->(∃ u,Pr.underlying s=some u)/\Pr.underlying d=some .string/\qK Pr s=b)/\(∀ e,gL Pr s d= .bytes e->(∃ u,Pr.underlying s=some u)/\Pr.underlying d=some (.slice e)/\Pr.underlying e=some (.int .u8)):=by
 unfold gL
 cases hs:Pr.underlying s with
 | none=>simp
 | some a=>
  cases hd:Pr.underlying d with
  | none=>simp
  | some b=>
   cases b <;> simp
   case float k=>cases k <;> simp
   case slice e=>
    by_cases hu:PN Pr e=true
    .simp only [hu]
     simp
     exact Gz hu
    .simp [hu]
theorem lg:∀ (rs:List (List V)) (l:List Nat),gC rs=some l->(∀ r ∈ rs,r.length=1)->rs.flatten=l.map (λc=>V.int .u8 (.ofNat c))/\∀ c ∈ l,c<256
 | [],l,e,_=>by
  have e:some []=some l:=e;cases e;exact ⟨rfl,by simp⟩
 | r::rs,l,e,hr=>by
  cases r with
  | nil=>have:=hr [] (List.mem_cons_self ..);cases this
  | cons v r=>
   have h1:=hr _ (List.mem_cons_self ..)
   have:r=[]:=List.eq_nil_of_length_eq_zero (by simpa using h1)
   subst this
   replace e:V.onInt (λk x=>Bool.rec none (Int.rec (λc=>Bool.rec none (on (gC rs) λl=>some (c::l)) (Nat.blt c 256)) (λ_=>none) x) (Nat.beq (aM k) 4)) v=some l:=e
   rw [aK] at e
   obtain ⟨k,x,rfl,e⟩:=e
   rw [aj] at e
   obtain ⟨hk,e⟩:=e
   cases x with
   | negSucc=>cases e
   | ofNat c=>
    replace e:Bool.rec none (on (gC rs) λl=>some (c::l)) (Nat.blt c 256)=some l:=e
    rw [aj,dm,ah] at e
    obtain ⟨hc,l',hl,e⟩:=e
    have hc:=of_decide_eq_true hc
    cases e
    have hk8:k= .u8:=by cases k <;> first | rfl | cases hk
    subst hk8
    obtain ⟨g1,g2⟩:=lg rs l' hl λr hr'=>hr r (List.mem_cons_of_mem _ hr')
    refine ⟨by rw [List.flatten_cons,g1];rfl,λc' hc'=>?_⟩
    rcases List.mem_cons.1 hc' with rfl | h
    .exact hc
    .exact g2 _ h
theorem qu (l:List Nat) (h:∀ c ∈ l,c<256):aH (strOfNums (l.map λc:Nat=>(c:Int)))=l:=by
 unfold aH;rw [strOfNums_data,List.map_map,List.map_map]
 conv=>rhs;rw [← List.map_id l]
 apply List.map_congr_left;intro c hc;have:=h c hc;simp [UInt8.toNat_ofNat];omega
theorem vw:∀ {l:List Nat} {cs:List Value},Rvs ρ (l.map λc=>V.int .u8 (.ofNat c)) cs->cs=l.map λc:Nat=>Value.int .u8 (c:Int)
 | [],cs,h=>by simpa [Rvs] using h
 | c::l,cs,h=>by
  simp only [List.map_cons,Rvs] at h;obtain ⟨x,r',rfl,hx,hr⟩:=h;simp only [Rv] at hx;rw [vw hr,hx];rfl
theorem Og (H:Rh w0 ρ h n w) (f:Fr ρ m σ τ) {s d:TypeId} {x:Operand} {v:V} (hq:dJ Pr (.convert s d x)=true) (e:gU Pr (.convert s d x) σ h=some v):∃ u,Ex Pr (ev m τ) w (.convert s d x) ty u/\Rv ρ v u:=by
 obtain ⟨c1,c2,c3,c4⟩:=sI (Pr:=Pr) s d
 replace e:(CK.rec (λk=>qx λσ _=>on (aJ x σ) (V.onInt λ_ a=>some (.int k (k.wrap a))))
  (qx λσ _=>on (aJ x σ) (V.onInt λ_ a=>some (.flt (iR a))))
  (λbs _ σ h n f=>on (aJ x σ) (nJ h n f bs))
  (λ_ _ σ h n f=>on (aJ x σ) (V.onStr λl=>Bool.rec (eB (.fz l) (.sl n 0 (bR l) none) h n f) none (Nat.beq (bR l) 0)))
  (λ_ _ _ _ _=>none) (gL Pr s d):OX V) (λ_ _ _=>none) σ h .z (λv _ _=>some v)=some v:=e
 unfold dJ at hq;simp only at hq
 cases hK:gL Pr s d with
 | int k=>
  rw [hK] at e
  replace e:on (on (aJ x σ) (V.onInt λ_ a=>some (.int k (k.wrap a)))) (λv=>some v)=some v:=e
  simp only [ah,aK] at e
  obtain ⟨_,⟨_,hx,k',a,rfl,e⟩,e2⟩:=e
  cases e;cases e2
  have hv:=av f hx
  simp only [Rv] at hv
  obtain ⟨⟨u,hs⟩,hd⟩:=c1 k hK
  exact ⟨.int k (k.wrap a),λ_ _ _ _=>by simp [execOp,hv,convert,run_underlying hs,run_underlying hd,Conv.intToInt],by simp only [Rv]⟩
 | flt=>
  rw [hK] at e
  replace e:on (on (aJ x σ) (V.onInt λ_ a=>some (.flt (iR a)))) (λv=>some v)=some v:=e
  simp only [ah,aK] at e
  obtain ⟨_,⟨_,hx,k',a,rfl,e⟩,e2⟩:=e
  cases e;cases e2
  have hv:=av f hx
  simp only [Rv] at hv
  obtain ⟨⟨u,hs⟩,hd⟩:=c2 hK
  exact ⟨_,J6 hd hs hv,by simp only [Rv]⟩
 | str bs=>
  rw [hK] at e
  replace e:on (aJ x σ) (nJ h .z (λv _ _=>some v) bs)=some v:=e
  rw [ah] at e
  obtain ⟨a,hx,e⟩:=e
  have hv:=av f hx
  obtain ⟨⟨u,hs⟩,hd,hb⟩:=c3 bs hK
  cases a <;> first | (cases e;done) | skip
  .cases e
   simp only [Rv] at hv
   obtain ⟨sv,hv,hl⟩:=hv
   exact ⟨.string sv,λ_ _ _ _=>by simp [execOp,hv,convert,run_underlying hs,run_underlying hd],by simp only [Rv];exact ⟨_,rfl,hl⟩⟩
  .replace e:(Bool.rec none (some (.str [])) bs:Option V)=some v:=e
   rw [aj] at e
   obtain ⟨rfl,e⟩:=e
   cases e
   obtain ⟨el,h1,h2⟩:=mW hb
   simp only [Rv] at hv
   have:=run_convert_bytes_nil (P:=Pr) w s el h1 h2 0 0 d hd
   exact ⟨.string .empty,λ_ _ _ _=>by simp [execOp,hv,this],by simp only [Rv];exact ⟨_,rfl,rfl⟩⟩
  .rename_i b i len cap
   replace e:(Bool.rec none (dU 1 b i len h λm=>on (gC m) λl=>some (.str l)) bs:Option V)=some v:=e
   rw [aj] at e
   obtain ⟨rfl,e⟩:=e
   simp only [Rv] at hv
   obtain ⟨L,c,pp,hL,hv,hpl,_⟩:=hv
   obtain ⟨old,e,hw,hn,hcs⟩:=j4 (β:=V) H hL e
   rw [ah] at e
   obtain ⟨l,hl,e⟩:=e
   cases e
   obtain ⟨el,h1,h2⟩:=mW hb
   rcases Nat.eq_zero_or_pos len with rfl | hp
   .have:old=[]:=List.length_eq_zero_iff.1 hn
    subst this
    replace hl:some []=some l:=hl
    cases hl
    have:=run_convert_bytes_arg (P:=Pr) w s el h1 h2 L.c ((L.o+pp) * L.k) 0 c [] rfl (by intro i hi;omega) d hd
    exact ⟨_,λ_ _ _ _=>by simp [execOp,hv,this];rfl,by simp only [Rv];exact ⟨_,rfl,rfl⟩⟩
   .obtain rfl:=(hpl.pos hp).symm
    obtain ⟨cs,q1,q2,q3,q4⟩:=hcs hp
    obtain ⟨g1,g2⟩:=lg old l hl q4
    rw [g1] at q3
    have hcs:=vw q3
    have hll:l.length=len:=by have:cs.length=l.length:=(by rw [hcs];simp);omega
    have:=run_convert_bytes_arg (P:=Pr) w s el h1 h2 L.c ((L.o+i) * L.k) len c (l.map λc:Nat=>(c:Int)) (by simp [hll]) (λj hj=>by
     have hjl:j<cs.length:=by omega
     have hcell:=q2.cell j hjl;rw [hcell]
     congr 1
     subst hcs
     simp [List.getD,show j<l.length by omega]) d hd
    exact ⟨_,λ_ _ _ _=>by simp [execOp,hv,this];rfl,by simp only [Rv];exact ⟨_,rfl,qu l g2⟩⟩
 | bytes e'=>rw [hK] at hq;cases hq
 | no=>rw [hK] at hq;cases hq
end
end Go.Lk
namespace Go.Lk
open Go.Eng Go.RowKit
section
variable {ρ:Ren} {Pr:Program} {m:Nat} {w0:Base} {w:World} {ty t t':TypeId} {σ:T V} {τ:Nat->Value} {h:T Blk} {n:P} {run:fG} {β:Type} [Jn β] {r:β} {kc:V->T Blk->P->Option β}
theorem mf (w:World) (e:TypeId) (s:ByteArray):Al w.drew (Lib.bytesWorld w e s) (.cells (Lib.bytesCells w e s) e ((Lib.bytesCells w e s).size,(Lib.bytesCells w e s).size+1)):=by
 refine ⟨?_⟩
 have key:(Lib.bytesWorld w e s).heap=w.heap.push (.cells (Lib.bytesCells w e s) e ((Lib.bytesCells w e s).size,(Lib.bytesCells w e s).size+1)):=by
  apply Array.ext_getElem?;intro j
  rcases Nat.lt_trichotomy j w.heap.size with hj | hj | hj
  .rw [Lib.bytesWorld_at_old w e s j hj,Array.getElem?_push,if_neg (by omega)]
  .subst hj;rw [Lib.bytesWorld_at_new w e s,Array.getElem?_push,if_pos rfl]
  .rw [Array.getElem?_eq_none (by rw [Lib.bytesWorld_size];omega),Array.getElem?_eq_none (by simp;omega)]
 have:Lib.bytesWorld w e s={ w.drew with heap:=(Lib.bytesWorld w e s).heap }:=rfl;rw [this,key];rfl
theorem Me (H:Rh w0 ρ h n w) (f:Fr ρ m σ τ) {s d:TypeId} {x:Operand} (hK:∀ k,gL Pr s d≠.int k) (hF:gL Pr s d≠.flt) (hS:∀ b,gL Pr s d≠.str b) (e:ye Pr (.convert s d x) run σ h n kc=some r):fU Pr (ev m τ) w (.convert s d x) ty (Kx w0 ρ r kc):=by
 obtain ⟨c1,c2,c3,c4⟩:=sI (Pr:=Pr) s d
 replace e:(CK.rec (λk=>qx λσ _=>on (aJ x σ) (V.onInt λ_ a=>some (.int k (k.wrap a))))
  (qx λσ _=>on (aJ x σ) (V.onInt λ_ a=>some (.flt (iR a))))
  (λbs _ σ h n f=>on (aJ x σ) (nJ h n f bs))
  (λ_ _ σ h n f=>on (aJ x σ) (V.onStr λl=>Bool.rec (eB (.fz l) (.sl n 0 (bR l) none) h n f) none (Nat.beq (bR l) 0)))
  (λ_ _ _ _ _=>none) (gL Pr s d):OX β) run σ h n kc=some r:=e
 cases hk:gL Pr s d with
 | int k=>exact absurd hk (hK k)
 | flt=>exact absurd hk hF
 | str b=>exact absurd hk (hS b)
 | no=>rw [hk] at e;cases e
 | bytes el=>
  rw [hk] at e
  replace e:on (aJ x σ) (V.onStr λl=>Bool.rec (eB (.fz l) (.sl n 0 (bR l) none) h n kc) none (Nat.beq (bR l) 0))=some r:=e
  simp only [ah,bV,jq,bO] at e
  obtain ⟨_,hx,l,rfl,_,e⟩:=e
  have hv:=av f hx
  simp only [Rv] at hv
  obtain ⟨sv,hv,hl⟩:=hv
  obtain ⟨⟨u,hs⟩,hd,he⟩:=c4 el hk
  have hrun:=Lib.run_convert_string_bytes (P:=Pr) w s d el sv hs hd he
  have hal:=mf w el sv
  have hlen:l.length=sv.size:=by rw [← hl,aX]
  refine ⟨.slice (some ⟨w.heap.size,0,none⟩) sv.size (grownCap w sv.size 0 el),Lib.bytesWorld w el sv,?_,.inl λ_ _ _ _=>by simp [execOp,hv,hrun]⟩
  unfold eB at e
  have hge:=grownCap_ge w sv.size 0 el
  refine ⟨ρ.put n ⟨w.heap.size,0,grownCap w sv.size 0 el,1⟩,_,_,n.succ,Ren.le_put H.free,H.drew.grow hal (.inr rfl) H.free (by rw [P.num_succ];omega) (by rw [P.num_succ];omega) rfl (B:=.fz l) ⟨rfl,_,_,_,rfl,λi c hc=>?_⟩,?_,e⟩
  .have hi:i<l.length:=(List.getElem?_eq_some_iff.1 hc).1
   have hi2:i<sv.data.size:=by rw [hlen] at hi;exact hi
   simp only [Nat.zero_add]
   unfold Lib.bytesCells
   rw [Array.getElem?_append_left (by rw [Array.size_map];exact hi2),Array.getElem?_map]
   subst hl
   unfold aH at hc
   rw [List.getElem?_map,Array.getElem?_toList] at hc
   cases hb:sv.data[i]? with
   | none=>rw [hb] at hc;cases hc
   | some b=>rw [hb] at hc;cases hc;rfl
  .simp only [Rv]
   exact ⟨_,grownCap w sv.size 0 el,0,Ren.put_same,by simp [hlen],PL.mkO (.inr (by decide)),by rw [hlen];exact hge,by simp⟩
theorem fu {f:V->T Blk->P->(V->T Blk->P->Option β)->Option β} {as:List V} (e:Aj f as h n kc=some r):∃ x,as=[x]/\f x h n kc=some r:=by
 have _:True:=(λ(_:Jn β)=>trivial) inferInstance
 cases as with
 | nil=>cases e
 | cons x q=>cases q with
  | nil=>exact ⟨x,rfl,e⟩
  | cons=>cases e
theorem iw {f:V->V->T Blk->P->(V->T Blk->P->Option β)->Option β} {as:List V} (e:xE f as h n kc=some r):∃ x y,as=[x,y]/\f x y h n kc=some r:=by
 have _:True:=(λ(_:Jn β)=>trivial) inferInstance
 cases as with
 | nil=>cases e
 | cons x q=>cases q with
  | nil=>cases e
  | cons y q=>cases q with
   | nil=>exact ⟨x,y,rfl,e⟩
   | cons=>cases e
theorem D3 {as:Array Operand} {x:V} (f:Fr ρ m σ τ) (e:gq as.toList σ=some [x]):∃ o,as=#[o]/\Rv ρ x (ev m τ o):=by
 have h:=dS f e;have hl:=h.length;rw [List.length_map] at hl;obtain ⟨o,ho⟩:∃ o,as.toList=[o]:=List.length_eq_one_iff.1 hl;rw [ho] at h;simp only [List.map_cons,List.map_nil,Rvs] at h;obtain ⟨y,r',h1,h2,rfl⟩:=h;cases h1
 exact ⟨o,by rw [← Array.toArray_toList (xs:=as),ho],h2⟩
theorem Li {as:Array Operand} {x y:V} (f:Fr ρ m σ τ) (e:gq as.toList σ=some [x,y]):∃ o p,as=#[o,p]/\Rv ρ x (ev m τ o)/\Rv ρ y (ev m τ p):=by
 have h:=dS f e;have hl:=h.length;rw [List.length_map] at hl
 obtain ⟨o,p,ho⟩:∃ o p,as.toList=[o,p]:=by
  generalize as.toList=l at hl
  match l,hl with
  | [o,p],_=>exact ⟨o,p,rfl⟩
 rw [ho] at h;simp only [List.map_cons,List.map_nil,Rvs] at h;obtain ⟨y',r',h1,h2,z',r2,h3,h4,rfl⟩:=h;cases h1;cases h3
 exact ⟨o,p,by rw [← Array.toArray_toList (xs:=as),ho],h2,h4⟩
theorem QQ {n':P} (H:Rh w0 ρ h n' w) (f:Fr ρ m σ τ) {as:Array Operand} {ts:Array TypeId} {vs:List V} (ha:gq as.toList σ=some vs) (e:aR Pr .len ts vs h n kc=some r) :
  ∃ v u,kc v h n=some r/\Rv ρ v u/\Ex Pr (ev m τ) w (.call { callee:=.builtin .len,args:=as,argTypes:=ts }) ty u:=by
 unfold aR at e;simp only at e
 cases h0:ts[0]? with
 | none=>rw [h0] at e;cases e
 | some t=>
  rw [h0] at e
  simp only [Option.bind_some] at e
  cases hu:Pr.underlying t with
  | none=>rw [hu] at e;cases e
  | some d=>
   rw [hu] at e
   cases d <;> first | (cases e;done) | skip
   case string=>
    obtain ⟨x,rfl,e1⟩:=fu (r:=r) e
    obtain ⟨o,rfl,hx⟩:=D3 f ha
    rw [bV] at e1
    obtain ⟨l,rfl,e2⟩:=e1
    simp only [Rv] at hx
    obtain ⟨s,hx,hl⟩:=hx
    refine ⟨_,_,e2,?_,GM (P:=Pr) (w:=w) (ty:=ty) h0 hu hx⟩
    simp only [Rv,bO]
    rw [← hl,aX];rfl
   case slice el=>
    obtain ⟨x,rfl,e1⟩:=fu (r:=r) e
    obtain ⟨o,rfl,hx⟩:=D3 f ha
    rw [bu] at e1
    rcases e1 with ⟨rfl,e2⟩ | ⟨b,i,l,c,rfl,e2⟩
    .simp only [Rv] at hx
     exact ⟨_,_,e2,by simp only [Rv];rfl,qD h0 hu hx⟩
    .simp only [Rv] at hx
     obtain ⟨L,c',_,hL,hx,_⟩:=hx
     exact ⟨_,_,e2,by simp only [Rv];rfl,qD h0 hu hx⟩
   case map k el=>
    obtain ⟨x,rfl,e1⟩:=fu (r:=r) e
    obtain ⟨o,rfl,hx⟩:=D3 f ha
    rw [bD] at e1
    rcases e1 with ⟨rfl,e2⟩ | ⟨b,rfl,e2⟩
    .simp only [Rv] at hx
     exact ⟨_,.int .i64 0,e2,by simp only [Rv],λ_ _ _ _=>by simp [execOp,resolve,invoke,builtin,hx,Builtin.len_,h0,run_underlying hu,goInt]⟩
    .obtain ⟨es,c,hB,e3⟩:=bA (r:=r) e2
     simp only [Rv] at hx
     obtain ⟨L,hL,hx⟩:=hx
     obtain ⟨l,hl,hr,_⟩:=H.live b _ L hB hL
     have hlen:es.length=l.size:=by have:=hr.length_eq;simpa using this
     refine ⟨_,.int .i64 (l.size:Int),e3,by simp only [Rv,bO,hlen];rfl,λ_ _ _ _=>?_⟩
     simp [execOp,resolve,invoke,builtin,hx,Builtin.len_,h0,run_underlying hu,goInt,getObj,hl,Sem.run]
theorem P5 (f:Fr ρ m σ τ) {as:Array Operand} {ts:Array TypeId} {vs:List V} (ha:gq as.toList σ=some vs) (e:aR Pr .cap ts vs h n kc=some r) :
  ∃ v u,kc v h n=some r/\Rv ρ v u/\Ex Pr (ev m τ) w (.call { callee:=.builtin .cap,args:=as,argTypes:=ts }) ty u:=by
 unfold aR at e;simp only at e
 cases h0:ts[0]? with
 | none=>rw [h0] at e;cases e
 | some t=>
  rw [h0] at e
  simp only [Option.bind_some] at e
  cases hu:Pr.underlying t with
  | none=>rw [hu] at e;cases e
  | some d=>
   rw [hu] at e
   cases d <;> first | (cases e;done) | skip
   case slice el=>
    obtain ⟨x,rfl,e1⟩:=fu (r:=r) e
    obtain ⟨o,rfl,hx⟩:=D3 f ha
    rw [bu] at e1
    rcases e1 with ⟨rfl,e2⟩ | ⟨b,i,l,c,rfl,e2⟩
    .simp only [Rv] at hx
     exact ⟨_,_,e2,by simp only [Rv];rfl,Cu h0 hu hx⟩
    .cases c with
     | none=>cases e2
     | some c=>
      simp only [Rv] at hx
      obtain ⟨L,c',pp,hL,hx,hc,_⟩:=hx
      obtain ⟨rfl,rfl⟩:=hc.capd
      exact ⟨_,_,e2,by simp only [Rv];rfl,Cu h0 hu hx⟩
theorem Rf (f:Fr ρ m σ τ) {as:Array Operand} {ts:Array TypeId} {vs:List V} (ha:gq as.toList σ=some vs) (e:aR Pr .min ts vs h n kc=some r) :
  ∃ v u,kc v h n=some r/\Rv ρ v u/\Ex Pr (ev m τ) w (.call { callee:=.builtin .min,args:=as,argTypes:=ts }) ty u:=by
 unfold aR at e;simp only at e;obtain ⟨x,y,rfl,e1⟩:=iw (r:=r) e;obtain ⟨o,p,rfl,hx,hy⟩:=Li f ha;clear e;rw [ah] at e1;obtain ⟨z,hz,e⟩:=e1;cases x <;> first | (cases hz;done) | skip
 .rename_i k a
  replace hz:V.onInt (λj y=>Bool.rec none (some (.int k (Bool.rec a y (Mo y a)))) (Nat.beq (aM k) (aM j))) y=some z:=hz
  simp only [aK,aj] at hz;obtain ⟨j,b,rfl,hk,hz⟩:=hz;cases hz
  have hk:=cu hk;subst hk;simp only [Rv] at hx hy;refine ⟨_,.int k (if b<a then b else a),e,by simp only [Rv,mK];by_cases hl:b<a <;> simp [hl],λ_ _ _ _=>?_⟩;simp [execOp,resolve,hx,hy,invoke,builtin,Builtin.min_,Builtin.min2,List.foldlM]
 rename_i a
 replace hz:V.onFlt (λb=>on (J9 a b) λc=>some (.flt c)) y=some z:=hz
 cases y <;> first | (cases hz;done) | skip
 rename_i b
 replace hz:on (J9 a b) (λc=>some (.flt c))=some z:=hz
 rw [ah] at hz;obtain ⟨c,hc,hz⟩:=hz;cases hz
 simp only [Rv] at hx hy;have h':FloatKind.f64.format.order a b=Flt.D.order a b:=rfl;refine ⟨_,.float .f64 c,e,by simp only [Rv],λ_ _ _ _=>?_⟩;unfold J9 at hc;rw [fJ] at hc
 rcases hc with ⟨h1,hc⟩ | ⟨_,hc⟩
 .cases hc
  cases ho:Flt.D.order a b with
  | none=>rw [ho] at h1;cases h1
  | some q=>cases q <;> first | (rw [ho] at h1;cases h1;done) | simp [execOp,resolve,hx,hy,invoke,builtin,Builtin.min_,Builtin.min2,h',ho,List.foldlM]
 .rw [fJ] at hc
  rcases hc with ⟨h1,hc⟩ | ⟨_,hc⟩
  .cases hc
   cases ho:Flt.D.order a b with
   | none=>rw [ho] at h1;cases h1
   | some q=>cases q <;> first | (rw [ho] at h1;cases h1;done) | simp [execOp,resolve,hx,hy,invoke,builtin,Builtin.min_,Builtin.min2,h',ho,List.foldlM]
  .rw [aj,aj] at hc;obtain ⟨h1,hab,hc⟩:=hc;have:=Nat.eq_of_beq_eq_true hab;subst this;cases hc
   cases ho:Flt.D.order a a with
   | none=>rw [ho] at h1;cases h1
   | some q=>cases q <;> first | (rw [ho] at h1;cases h1;done) | simp [execOp,resolve,hx,hy,invoke,builtin,Builtin.min_,Builtin.min2,h',ho,List.foldlM]
theorem Qg (f:Fr ρ m σ τ) {as:Array Operand} {ts:Array TypeId} {vs:List V} (ha:gq as.toList σ=some vs) (e:aR Pr .max ts vs h n kc=some r) :
  ∃ v u,kc v h n=some r/\Rv ρ v u/\Ex Pr (ev m τ) w (.call { callee:=.builtin .max,args:=as,argTypes:=ts }) ty u:=by
 unfold aR at e;simp only at e;obtain ⟨x,y,rfl,e1⟩:=iw (r:=r) e;obtain ⟨o,p,rfl,hx,hy⟩:=Li f ha;clear e;rw [ah] at e1;obtain ⟨z,hz,e⟩:=e1;unfold Lm at hz;simp only [aK,aj] at hz;obtain ⟨k,a,rfl,j,b,rfl,hk,hz⟩:=hz;cases hz
 have hk:=cu hk;subst hk;simp only [Rv] at hx hy;refine ⟨_,.int k (if b > a then b else a),e,by simp only [Rv,mK];by_cases hl:a<b <;> simp [hl],λ_ _ _ _=>?_⟩;simp [execOp,resolve,hx,hy,invoke,builtin,Builtin.max_,Builtin.max2,List.foldlM]
end
end Go.Lk
