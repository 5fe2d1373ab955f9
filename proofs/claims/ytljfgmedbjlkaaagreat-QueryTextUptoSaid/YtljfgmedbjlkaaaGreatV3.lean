/- Families of pieces, and several pieces handed to a call. Over any program. -/
import Derived.Test.YtljfgmedbjlkaaaGreatEB
import Derived.Laws.BytesArg
import Derived.Laws.BitsAllLaws
namespace Go.Eng
open Go.RowKit
def ry (L:List Ch):Nat->Prop:=λb=>∃ c ∈ L,c.foot b
section
variable {S:Nat->Prop} {w0 w w':World} {L M R:List Ch} {c d e:Ch} {i j n:Nat} {f g:Nat->Ch}
theorem Hp.startL (H:Hp S w0 w (L++R)):Hp (ry L) w w L:=
  ⟨Mod.refl _ _,λc hc=>H.says c (List.mem_append_left _ hc),λc hc b hb=>⟨(H.own c (List.mem_append_left _ hc) b hb).1,.inl ⟨c,hc,hb⟩⟩,(List.pairwise_append.1 H.apart).1⟩
theorem Hp.callL (H:Hp S w0 w (L++R)) (K:Hp (ry L) w w' M):Hp S w0 w' (M++R):=by
  obtain ⟨hL,hR,hLR⟩:=List.pairwise_append.1 H.apart;have hown:∀ b,ry L b->S b\/w0.heap.size<=b:=λb ⟨c,hc,hb⟩=>(H.own c (List.mem_append_left _ hc) b hb).2;refine ⟨H.fr.trans' K.fr hown,λc hc=>?_,λc hc b hb=>?_,List.pairwise_append.2 ⟨K.apart,hR,λc hc d hd b hb hb'=>?_⟩⟩
  . rcases List.mem_append.1 hc with h | h
    . exact K.says c h
    . refine c.keep (H.says c (List.mem_append_right _ h)) λb hb hlt=>K.fr.block b hlt λ⟨x,hx,hxb⟩=>hLR x hx c h b hxb hb
  . rcases List.mem_append.1 hc with h | h
    . obtain ⟨h1,h2⟩:=K.own c h b hb
      refine ⟨h1,?_⟩
      rcases h2 with h2 | h2
      . exact hown b h2
      . exact .inr (Nat.le_trans H.size h2)
    . obtain ⟨h1,h2⟩:=H.own c (List.mem_append_right _ h) b hb
      exact ⟨Nat.lt_of_lt_of_le h1 K.fr.size,h2⟩
  . rcases (K.own c hc b hb).2 with ⟨x,hx,hxb⟩ | h
    . exact hLR x hx d hd b hxb hb'
    . have:=(H.own d (List.mem_append_right _ hd) b hb').1
      omega
theorem Hp.split (H:Hp S w0 w L) (i:Nat) (hi:L[i]?=some c) (hs:c.says w.heap->d.says w.heap/\e.says w.heap/\∀ b,d.foot b->¬ e.foot b) (hf:∀ b,d.foot b\/e.foot b->c.foot b):Hp S w0 w (d::L.set i e):=by
  have hm:=List.mem_of_getElem? hi;obtain ⟨h1,h2,h3⟩:=hs (H.says c hm);have H2:=H.conv i hi (d:=e) (λ_=>h2) λb hb=>hf b (.inr hb);refine ⟨H2.fr,λx hx=>?_,λx hx b hb=>?_,List.pairwise_cons.2 ⟨λx hx b hb hb'=>?_,H2.apart⟩⟩
  . rcases List.mem_cons.1 hx with rfl | hx
    . exact h1
    . exact H2.says x hx
  . rcases List.mem_cons.1 hx with rfl | hx
    . exact H.own c hm b (hf b (.inl hb))
    . exact H2.own x hx b hb
  . obtain ⟨k,hk,rfl⟩:=List.getElem_of_mem hx
    rw [List.length_set] at hk
    rw [List.getElem_set] at hb'
    split at hb'
    . exact h3 b hb hb'
    . rename_i hne
      exact H.ne i k hi (List.getElem?_eq_getElem hk) hne b (hf b (.inl hb)) hb'
def cF (n:Nat) (f:Nat->Ch):Ch:=
  ⟨λb=>∃ j,j<n/\(f j).foot b,λh=>(∀ j,j<n->(f j).says h)/\∀ i j,i<n->j<n->i≠j->∀ b,(f i).foot b->¬ (f j).foot b,
   λhs hk=>⟨λj hj=>(f j).keep (hs.1 j hj) λb hb=>hk b ⟨j,hj,hb⟩,hs.2⟩⟩
def ins (f:Nat->Ch) (n:Nat) (d:Ch):Nat->Ch:=λj=>if j=n then d else f j
theorem dN:ins f n d n=d:=if_pos rfl
theorem aW (h:j≠n):ins f n d j=f j:=if_neg h
theorem Hp.fcongr (H:Hp S w0 w L) (i:Nat) (hi:L[i]?=some (cF n f)) (h:∀ j,j<n->f j=g j):Hp S w0 w (L.set i (cF n g)):=
  H.conv i hi (λhs=>⟨λj hj=>h j hj▸hs.1 j hj,λp q hp hq hpq b hb hb'=>hs.2 p q hp hq hpq b (by rw [h p hp];exact hb) (by rw [h q hq];exact hb')⟩) λb ⟨j,hj,hb⟩=>⟨j,hj,by rw [h j hj];exact hb⟩
end
end Go.Eng
namespace Go.Eng
open Go.RowKit
def OwnQ (h:Array Obj) (T:TypeId) (k:Nat) (a:Option Addr) (m c:Nat) (cs:List Value):Prop:=
 cs.length=m * k/\((m=0/\c=0)\/∃ b R,0<c/\a=some ⟨b,0,none⟩/\Blk h b (cs++R) T/\m<=c/\c<=maxLen/\(cs++R).length=c * k)
def kh (a:Option Addr) (c:Nat):Nat->Prop:=λz=>0<c/\a.map (·.block)=some z
section
variable {h h':Array Obj} {T:TypeId} {k m c lo:Nat} {a:Option Addr} {cs:List Value}
theorem Own.toQ (ho:Own h lo T k (.slice a m c) m cs):OwnQ h T k a m c cs:=by
 obtain ⟨h1,⟨e,rfl⟩ | ⟨b,cap,xs,e,_,hB,hm,hc,hl⟩⟩:=ho
 .injection e with _ _ e3;exact ⟨h1,.inl ⟨rfl,e3⟩⟩
 .injection e with e1 _ e3;subst e3
  by_cases h0:c=0
  .exact ⟨h1,.inl ⟨by omega,h0⟩⟩
  .exact ⟨h1,.inr ⟨b,xs,by omega,e1,hB,hm,hc,hl⟩⟩
theorem OwnQ.kept (ho:OwnQ h T k a m c cs) (e:∀ b,kh a c b->b<h.size->h'[b]?=h[b]?):OwnQ h' T k a m c cs:=by
 obtain ⟨h1,h2⟩:=ho;refine ⟨h1,?_⟩
 rcases h2 with h2 | ⟨b,R,h0,rfl,hB,r⟩
 .exact .inl h2
 .exact .inr ⟨b,R,h0,rfl,hB.keep (e b ⟨h0,rfl⟩ hB.lt),r⟩
theorem OwnQ.lt (ho:OwnQ h T k a m c cs) {b:Nat} (hb:kh a c b):b<h.size:=by
 obtain ⟨h1,h2 | ⟨b',R,h0,rfl,hB,r⟩⟩:=ho
 .have:=hb.1;omega
 .obtain ⟨_,e⟩:=hb;injection e with e;subst e;exact hB.lt
theorem OwnQ.src (ho:OwnQ h T k a m c cs):Src h (.slice a m c) m k cs:=by
 obtain ⟨h1,⟨rfl,rfl⟩ | ⟨b,R,h0,rfl,hB,hm,hc,hl⟩⟩:=ho
 .exact ⟨h1,a,0,rfl,Nat.le_refl _,by unfold maxLen;omega,.inl rfl⟩
 .refine ⟨h1,_,_,rfl,hm,hc,.inr ⟨b,0,rfl,hB.cells 0 cs λj hj=>?_⟩⟩;rw [Nat.zero_add,List.getElem?_append_left hj,List.getElem?_eq_getElem hj]
theorem OwnQ.none (h:Array Obj) (T:TypeId) (k:Nat) (a:Option Addr):OwnQ h T k a 0 0 []:=⟨by simp,.inl ⟨rfl,rfl⟩⟩
end
def cQ {α:Type} (T:TypeId) (E:En α) (a:Option Addr) (m c:Nat) (xs:List α):Ch:=⟨kh a c,λh=>OwnQ h T E.k a m c (flat E.enc xs),λhs hk=>hs.kept hk⟩
section
variable {α:Type} {P:Program} {n:Nat} {σ:Nat->Value} {w w' w0:World} {ty t:TypeId} {x y:Operand} {S:Nat->Prop} {L:List Ch} {K:Value->World->Prop} {E:En α} {e k0 bb m mx c:Nat} {z:Value} {a:Option Addr} {xs ys:List α}
theorem cQ.sr {T:TypeId} {h:Array Obj} (hs:(cQ T E a m c xs).says h):Srm E h a m c xs:=OwnQ.src hs
def GJ (w w':World) (m':Nat) (sv v':Value):Prop:=(∃ a l c,sv= .slice a l c/\v'= .slice a m' c)\/(Ext w w'/\∀ k,v'.ownBlock=some k->k=w.heap.size)
theorem EP {P:Program} {n:Nat} {σ:Nat->Value} {w:World} {ty t:TypeId} {K:Value->World->Prop} {x s:Operand} {e k bb lo m mx:Nat} {z sv xv:Value} {cs news:List Value} (hS:SL P t e k bb z) (hs:ev n σ s=sv) (hx:ev n σ x=xv) (hown:Own w.heap lo e k sv m cs) (hsrc:Src w.heap xv mx k news)
  (h1:∀ u ∈ news,u.oneCell'=true) (hbytes:(m+mx) * bb<=140737488355328) (hbb:0<bb) (hlo:lo<=w.heap.size)
  (kk:∀ v' w',Own w'.heap lo e k v' (m+mx) (cs++news)->w.grownBy w' sv.ownBlock->(mx≠0->v'≠.slice none 0 0)->GJ w w' (m+mx) sv v'->K v' w') :
  fU P (ev n σ) w (.call { callee:=.builtin .append,args:=#[s,x],argTypes:=#[t,t] }) ty K:=by
 obtain ⟨i,hi,hk,hbb',hz⟩:=hS.inf;subst hk;subst hbb';obtain ⟨hl,a,c,rfl,hmc,hcm,hsrc⟩:=hsrc
 have h63:m+mx<=maxLen:=by
  have:(m+mx) * 1<=(m+mx) * i.bytes:=Nat.mul_le_mul_left _ hbb;unfold maxLen;omega
 have main:∃ v' w',(Builtin.append_ #[t,t] ty #[sv,.slice a mx c]).run P w= .ok v' w'/\w'.ownsRow lo e i.size v' (m+mx) (cs++news)/\w.grownBy w' sv.ownBlock/\(mx≠0->v'≠.slice none 0 0)/\GJ w w' (m+mx) sv v':=by
  cases a with
  | some a=>
   have hc:∀ (j:Nat) (u:Value),news[j]?=some u->w.cell? (a.add j)=some u:=by
    intro j u hu
    have hj:j<news.length:=by
     rcases Nat.lt_or_ge j news.length with h' | h'
     .exact h'
     .rw [List.getElem?_eq_none h'] at hu;cases hu
    rcases hsrc with rfl | ⟨b,o,ha,hC⟩
    .simp at hl;rw [hl] at hj;simp at hj
    .injection ha with ha;subst ha;rw [bH,hC.cell j hj];rw [List.getElem?_eq_getElem hj] at hu;exact hu
   obtain ⟨v',w',hr,ho,hg,hn⟩:=run_append_own (P:=P) w lo t ty e i z i.size i.bytes hS.und hi hz rfl rfl hS.zs hS.pos sv m cs hown.row a mx c news hl hc h1 h63 hbytes hlo
   refine ⟨v',w',hr,ho,hg,λhm h=>hm (hn.1 h).2,?_⟩
   rcases hown.2 with ⟨rfl,rfl⟩ | ⟨b,cap,R,rfl,hlo',hB,hmc',hcap,hR⟩
   .by_cases hm0:mx=0
    .exact .inl ⟨none,0,0,rfl,by rw [hn.2 ⟨rfl,hm0⟩,hm0]⟩
    .have hr':=run_append_nil (P:=P) (ty:=ty) w t e i z hS.und hi hz a mx c news hl hc (by omega) (by unfold maxLen at h63;omega) (by have:=hbytes;simp only [Nat.zero_add] at this;omega)
     rw [hr] at hr'
     injection hr' with e1 e2
     subst e1;subst e2
     exact .inr ⟨bZ _ _,λk hk=>by simp [Value.ownBlock] at hk;omega⟩
   .by_cases hroom:m+mx<=cap
    .have hfit:m * i.size+news.length<=(cs++R).toArray.size:=by
      rw [List.size_toArray,hR,hl,← Nat.add_mul];exact Nat.mul_le_mul_right _ hroom
     have hr':=run_append_room (P:=P) (ty:=ty) w t e i hS.und hi b m cap (cs++R).toArray hB a mx c news hl hc h1 hroom hfit
     rw [hr] at hr'
     injection hr' with e1 e2
     subst e1
     exact .inl ⟨_,_,_,rfl,rfl⟩
    .have holds:∀ j u,cs[j]?=some u->w.cell? ((⟨b,0,none⟩:Addr).add j)=some u:=hown.row.cells (g:=b) rfl
     have hr':=run_append_grow (P:=P) (ty:=ty) w t e i z hS.und hi hz ⟨b,0,none⟩ m cap cs hown.1 holds a mx c news hl hc (by omega) (by unfold maxLen at h63;omega) (growslice_fits (by omega) hbytes)
     rw [hr] at hr'
     injection hr' with e1 e2
     subst e1;subst e2
     exact .inr ⟨bZ _ _,λk hk=>by simp [Value.ownBlock] at hk;omega⟩
  | none=>
   rcases hsrc with rfl | ⟨b,o,ha,hC⟩
   case inr=>cases ha
   have hn:news=[]:=List.eq_nil_of_length_eq_zero (by simpa using hl)
   subst hn
   refine ⟨sv,w,?_,?_,⟨rfl,rfl,rfl,Nat.le_refl _,λ_ _ _=>rfl⟩,λh=>absurd rfl h,.inl (by rcases hown.2 with ⟨rfl,rfl⟩ | ⟨b,cap,xs,rfl,_⟩ <;> exact ⟨_,_,_,rfl,by simp⟩)⟩
   .have hsl:∃ a c,sv= .slice a m c/\m<=c:=by
     rcases hown.2 with ⟨rfl,rfl⟩ | ⟨b,cap,xs,rfl,_,_,hm,_⟩
     .exact ⟨none,0,rfl,Nat.le_refl _⟩
     .exact ⟨_,cap,rfl,hm⟩
    obtain ⟨a,c',rfl,hmc'⟩:=hsl
    cases a <;> simp [Builtin.append_,run_underlying hS.und,sizeOf,typeInfo,hi,Builtin.lenOf,hmc',Builtin.firstCells,storeCells]
   .simpa using hown.row
 obtain ⟨v',w',hr,ho,hg,hn,hw⟩:=main;refine ⟨v',w',kk v' w' (Own.of_row ho) hg hn hw,.inl λ_ _ _ _=>?_⟩;simp [execOp,resolve,invoke,builtin,hs,hx,hr]
def Went (w w':World) (a:Option Addr) (c:Nat) (a':Option Addr) (c':Nat):Prop:=(a'=a/\c'=c/\w.grownBy w' (if c=0 then none else a.map (·.block)))\/(Ext w w'/\∀ b,kh a' c' b->b=w.heap.size)
theorem EU {yv:Value} {cs news:List Value} (hS:SL P t e k0 bb z) (hs:ev n σ x= .slice a m c) (hx:ev n σ y=yv) (hown:OwnQ w.heap e k0 a m c cs) (hsrc:Src w.heap yv mx k0 news)
  (h1:∀ u ∈ news,u.oneCell'=true) (hbytes:(m+mx) * bb<=140737488355328) (hbb:0<bb)
  (kk:∀ a' c' w',OwnQ w'.heap e k0 a' (m+mx) c' (cs++news)->Went w w' a c a' c'->K (.slice a' (m+mx) c') w') :
  fU P (ev n σ) w (.call { callee:=.builtin .append,args:=#[x,y],argTypes:=#[t,t] }) ty K:=by
 obtain ⟨hl0,hq⟩:=hown
 rcases hq with ⟨rfl,rfl⟩ | ⟨b,R,h0,rfl,hB,hm,hc,hl⟩
 .have hcs:cs=[]:=List.eq_nil_of_length_eq_zero (by simpa using hl0);subst hcs
  cases a with
  | none=>
   refine DY (lo:=0) hS hs hx (Own.nil _ _ _ _) hsrc h1 hbytes hbb (Nat.zero_le _) λv' w' hO hG _ hW=>?_
   obtain ⟨a',c',rfl,_,_⟩:=hO.src.form
   refine kk a' c' w' hO.toQ (.inr ?_)
   rcases hW with hW | ⟨h1,h2⟩
   .refine ⟨⟨hG.os,hG.tape,hG.output,hG.size,λk hk=>hG.block k hk (by simp [Value.ownBlock])⟩,λb hb=>?_⟩
    obtain ⟨_,e⟩:=hb
    cases a' with
    | none=>cases e
    | some a'=>simp [Value.ownBlock] at hW
   .refine ⟨h1,λb hb=>?_⟩
    obtain ⟨_,e⟩:=hb
    cases a' with
    | none=>cases e
    | some a'=>exact h2 b e
  | some a=>
   obtain ⟨i,hi,hk,hbb',hz⟩:=hS.inf
   subst hk;subst hbb'
   obtain ⟨hln,ax,cx,rfl,hmc,hcm,hsrc'⟩:=hsrc
   by_cases h0:mx=0
   .subst h0
    have hn:news=[]:=List.eq_nil_of_length_eq_zero (by simpa using hln)
    subst hn
    refine ⟨.slice (some a) 0 0,w,kk (some a) 0 w (OwnQ.none _ _ _ _) (.inl ⟨rfl,rfl,⟨rfl,rfl,rfl,Nat.le_refl _,λ_ _ _=>rfl⟩⟩),.inl λ_ _ _ _=>?_⟩
    have hr:(Builtin.append_ #[t,t] ty #[.slice (some a) 0 0,.slice ax 0 cx]).run P w= .ok (.slice (some a) 0 0) w:=by
     cases ax <;> simp [Builtin.append_,run_underlying hS.und,sizeOf,typeInfo,hi,Builtin.lenOf,Builtin.firstCells,storeCells,loadCells,loadCellsFrom]
    simp [execOp,resolve,invoke,builtin,hs,hx,hr]
   .rcases hsrc' with h | ⟨b,o,rfl,hC⟩
    .exact absurd h h0
    have hc:∀ (j:Nat) (u:Value),news[j]?=some u->w.cell? ((⟨b,o,none⟩:Addr).add j)=some u:=by
     intro j u hu
     have hj:j<news.length:=by
      rcases Nat.lt_or_ge j news.length with h' | h'
      .exact h'
      .rw [List.getElem?_eq_none h'] at hu;cases hu
     rw [bH,hC.cell j hj];rw [List.getElem?_eq_getElem hj] at hu;exact hu
    have h63:0+mx<=maxLen:=by
     have:(0+mx) * 1<=(0+mx) * i.bytes:=Nat.mul_le_mul_left _ hbb;unfold maxLen;omega
    obtain ⟨v',w',hr,ho,hg,hn⟩:=run_append_own (P:=P) w 0 t ty e i z i.size i.bytes hS.und hi hz rfl rfl hS.zs hS.pos (.slice none 0 0) 0 [] (Own.nil w.heap 0 e i.size).row ⟨b,o,none⟩ mx cx news hln hc h1 h63 hbytes (Nat.zero_le _)
    have hr1:=run_append_nil (P:=P) (ty:=ty) w t e i z hS.und hi hz ⟨b,o,none⟩ mx cx news hln hc (by omega) (by unfold maxLen at h63;omega) (by have:=hbytes;simp only [Nat.zero_add] at this;omega)
    rw [hr] at hr1
    injection hr1 with e1 e2
    subst e1;subst e2
    have hr2:=run_append_grow (P:=P) (ty:=ty) w t e i z hS.und hi hz a 0 0 [] (by simp) (λj u hu=>by simp at hu) ⟨b,o,none⟩ mx cx news hln hc (by omega) (by unfold maxLen at h63;omega) (growslice_fits (by omega) hbytes)
    have hO':=Own.of_row ho
    rw [Nat.zero_add] at hO'
    have hO:=hO'.toQ
    refine ⟨_,_,kk _ _ _ (by rw [Nat.zero_add];exact hO) (.inr ⟨bZ _ _,λq hq=>?_⟩),.inl λ_ _ _ _=>?_⟩
    .obtain ⟨_,e'⟩:=hq
     injection e' with e'
     exact e'.symm
    .rw [Nat.zero_add] at hr2 ⊢
     have e0:([]:List Value).toArray++news.toArray=news.toArray:=by simp
     rw [e0] at hr2
     simp [execOp,resolve,invoke,builtin,hs,hx,hr2]
 .refine EP (lo:=0) hS hs hx (m:=m) (cs:=cs) ⟨hl0,.inr ⟨b,c,R,rfl,Nat.zero_le _,hB,hm,hc,hl⟩⟩ hsrc h1 hbytes hbb (Nat.zero_le _) λv' w' hO hG _ hW=>?_;obtain ⟨a',c',rfl,_,_⟩:=hO.src.form;refine kk a' c' w' hO.toQ ?_
  rcases hW with ⟨a1,l1,c1,e1,e2⟩ | ⟨h1,h2⟩
  .injection e1 with e11 e12 e13;injection e2 with e21 e22 e23;subst e11;subst e13;subst e21;subst e23;exact .inl ⟨rfl,rfl,by rw [if_neg (by omega)];exact hG⟩
  .refine .inr ⟨h1,λq hq=>?_⟩;obtain ⟨_,e'⟩:=hq
   cases a' with
   | none=>cases e'
   | some a'=>exact h2 q e'
theorem Went.mod {a':Option Addr} {c':Nat} (h:Went w w' a c a' c'):Mod (kh a c) w w':=by
 rcases h with ⟨_,_,hG⟩ | ⟨h,_⟩
 .refine (Mod.refl _ w).grown hG λb hb=>.inl ?_
  by_cases h0:c=0
  .rw [if_pos h0] at hb;cases hb
  .rw [if_neg h0] at hb;exact ⟨by omega,hb⟩
 .exact h.mod _
theorem Went.foot {a':Option Addr} {c' b:Nat} (h:Went w w' a c a' c') (hb:kh a' c' b):kh a c b\/w.heap.size<=b:=by
 rcases h with ⟨rfl,rfl,_⟩ | ⟨_,h⟩
 .exact .inl hb
 .exact .inr (by rw [h b hb];exact Nat.le_refl _)
theorem EapQ {yv:Value} (H:Hp S w0 w L) (i:Nat) (hS:SL P t e k0 bb z) (hs:ev n σ x= .slice a m c) (hi:L[i]?=some (cQ e E a m c xs)) (hx:ev n σ y=yv) (hsrc:Src w.heap yv mx E.k (flat E.enc ys)) (hb:(m+mx) * bb<=140737488355328) (hbb:Nat.blt 0 bb=true) (hk:k0=E.k)
  (k:∀ a' c' w',Hp S w0 w' (L.set i (cQ e E a' (m+mx) c' (xs++ys)))->K (.slice a' (m+mx) c') w'):fU P (ev n σ) w (.call { callee:=.builtin .append,args:=#[x,y],argTypes:=#[t,t] }) ty K:=by
 subst hk;refine EU hS hs hx (H.at i hi) hsrc (λu hu=>List.all_eq_true.1 (E.flat_ones ys) u hu) hb (by simpa [Nat.blt_eq] using hbb) λa' c' w' hO hW=>?_;rw [← qh] at hO;exact k a' c' w' (H.upd i hi hW.mod (λ_ h=>h) hO λz hz=>⟨hO.lt hz,hW.foot hz⟩)
theorem Hp.srQ {T:TypeId} (H:Hp S w0 w L) (i:Nat) (hi:L[i]?=some (cQ T E a m c xs)):Srm E w.heap a m c xs:=OwnQ.src (H.at i hi)
theorem Hp.noneQ (H:Hp S w0 w L) (T:TypeId) (E:En α) (a:Option Addr):Hp S w0 w (cQ T E a 0 0 []::L):=
 H.app' (M:=[cQ T E a 0 0 []]) ⟨Mod.refl _ _,λc hc=>by rw [List.mem_singleton] at hc;subst hc;exact OwnQ.none _ _ _ _,λc hc b hb=>(by rw [List.mem_singleton] at hc;subst hc;exact absurd hb.1 (Nat.lt_irrefl 0)),List.pairwise_singleton _ _⟩
theorem Hp.nilQ (H:Hp S w0 w L) (T:TypeId) (E:En α):Hp S w0 w (cQ T E none 0 0 []::L):=H.noneQ T E none
theorem Hp.toQ {b:Nat} {T:TypeId} {cs:List Value} (H:Hp S w0 w L) (E:En α) (i:Nat) (xs:List α) (hi:L[i]?=some (cB b T cs)) (hu:cs=flat E.enc xs) (hm:xs.length<=9223372036854775807):Hp S w0 w (L.set i (cQ T E (some ⟨b,0,none⟩) xs.length xs.length xs)):=by
 refine H.conv i hi (λh=>?_) λz hz=>by obtain ⟨_,e⟩:=hz;exact (Option.some.inj e).symm
 have h':Blk w.heap b cs T:=h;subst hu
 by_cases h0:xs.length=0
 .exact ⟨by rw [aI E.len],.inl ⟨h0,h0⟩⟩
 .exact ⟨by rw [aI E.len],.inr ⟨b,[],by omega,rfl,by rw [List.append_nil];exact h',Nat.le_refl _,by unfold maxLen;omega,by rw [List.append_nil,aI E.len]⟩⟩
end
end Go.Eng
namespace Go.Eng
open Go.RowKit
section
variable {α:Type} {P:Program} {n:Nat} {σ:Nat->Value} {w w' w0:World} {ty t:TypeId} {x y:Operand} {S:Nat->Prop} {L:List Ch} {K:Value->World->Prop} {E:En α} {e k0 bb m mx c:Nat} {z:Value} {a:Option Addr} {xs ys:List α}
theorem EsoQ [Inhabited α] {T:TypeId} {j:Nat} {v:Value} (H:Hp S w0 w L) (i:Nat) (u:α) (hs:SZ P t E.k) (hx:ev n σ x= .pointer (some ⟨ab a,ao a+j * E.k,none⟩)) (hi:L[i]?=some (cQ T E a m c xs)) (hy:ev n σ y=v) (hu:v.cells.toList=E.enc u) (hj:j<m)
  (k:∀ w',Hp S w0 w' (L.set i (cQ T E a m c (xs.set j u)))->K undef w'):fU P (ev n σ) w (.store t x y) ty K:=by
 have ho:OwnQ w.heap T E.k a m c (flat E.enc xs):=H.at i hi;have hl:=Srm.len (E:=E) ho.src;obtain ⟨h1,h2 | ⟨b,R,h0,rfl,hB,hm,hc,hR⟩⟩:=ho
 .omega
 refine Qf (lo:=0) (c:=c) E.len hs hx hy hu ⟨Nat.zero_le _,⟨R,hB,hR⟩,hc⟩ (by omega) (E.ones u) λw' o hp hO'=>k w' (H.upd i hi (S':=λz=>z=b) ((Mod.refl _ w).pt hp (.inl rfl)) (λz hz=>by rw [hz];exact ⟨h0,rfl⟩) ?_ λz hz=>?_)
 .obtain ⟨R',hB',hl'⟩:=hO'.blk;exact ⟨by rw [aI E.len,List.length_set,hl],.inr ⟨b,R',h0,rfl,hB',hm,hc,hl'⟩⟩
 .obtain ⟨_,e⟩:=hz;injection e with e;subst e;exact ⟨hO'.lt,.inl ⟨h0,rfl⟩⟩
end
section
variable {S:Nat->Prop} {w0 w w':World} {L:List Ch} {c d e r:Ch} {n:Nat} {f g:Nat->Ch}
theorem Hp.pick (H:Hp S w0 w L) (is:List Nat) (hn:is.Nodup):Hp S w0 w (is.filterMap λi=>L[i]?):=by
 refine ⟨H.fr,λc hc=>?_,λc hc=>?_,?_⟩
 .obtain ⟨i,_,hi⟩:=List.mem_filterMap.1 hc;exact H.at i hi
 .obtain ⟨i,_,hi⟩:=List.mem_filterMap.1 hc;exact H.own c (List.mem_of_getElem? hi)
 .rw [List.pairwise_filterMap];exact List.Pairwise.imp (λhne b hb b' hb'=>mU H.apart hb hb' hne) hn
end
section
variable {S:Nat->Prop} {w0 w:World} {c r:Ch} {n:Nat}
end
section
variable {P:Program} {n:Nat} {σ:Nat->Value} {w:World} {ty t t':TypeId} {x y:Operand}
theorem iC {k:IntKind} {z:Int} (j:Nat) (hx:ev n σ x= .int k z) (h:z=(j:Int)):ev n σ x= .int k (j:Int):=by
 rw [← h];exact hx
theorem EB {b:Bool} (hx:ev n σ x= .bool b):Ex P (ev n σ) w (.move x) ty (.bool (decide (b=true))):=ai (by rw [hx];cases b <;> rfl)
end
end Go.Eng
namespace Go.Eng
open Go.RowKit
abbrev eY:En Nat:=⟨λb=>[.int .u8 ((b:Nat):Int)],1,λ_=>rfl,by decide,λ_=>rfl⟩
def sN (l:List Nat):ByteArray:=strOfNums (l.map λc:Nat=>(c:Int))
theorem eH (l:List Nat):(sN l).size=l.length:=by unfold sN;rw [strOfNums_size,List.length_map]
theorem iZ:∀ l:List Nat,flat eY.enc l=l.map λc:Nat=>Value.int .u8 (c:Int)
 | []=>rfl
 | _::l=>congrArg (_::·) (iZ l)
section
variable {P:Program} {n:Nat} {σ:Nat->Value} {w w':World} {ty t t':TypeId} {x y:Operand} {a:Option Addr} {m c:Nat} {xs:List Nat}
theorem Qe {e:TypeId} (hs:P.underlying t=some (.slice e)) (he:P.underlying e=some (.int .u8)) (hd:P.underlying t'=some .string) (hx:ev n σ x= .slice a m c) (h:Srm eY w.heap a m c xs):Ex P (ev n σ) w (.convert t t' x) ty (.string (sN xs)):=by
 intro _ _ _ _;have hl:=h.len;obtain ⟨_,a',c',hv,_,_,h2⟩:=h;injection hv with e1 _ e3;subst e1 e3
 have key:(convert t t' (.slice a m c)).run P w= .ok (.string (sN xs)) w:=by
  rcases Nat.eq_zero_or_pos m with rfl | hm
  .obtain rfl:xs=[]:=List.eq_nil_of_length_eq_zero hl
   cases a with
   | none=>exact run_convert_bytes_nil w t e hs he 0 c t' hd
   | some p=>
    obtain ⟨b,o,sp⟩:=p
    have:=run_convert_bytes_string (P:=P) w t t' e (some ⟨b,o,sp⟩) 0 c hs he hd
    rw [this]
    simp [Conv.bytesToString,loadCells,loadCellsFrom]
    rfl
  .rcases h2 with h2 | ⟨b,o,rfl,hC⟩
   .omega
   .refine run_convert_bytes_arg (P:=P) w t e hs he b o m c (xs.map λc:Nat=>(c:Int)) (by rw [List.length_map];exact hl) (λi hi=>?_) t' hd;rw [iZ] at hC;have:=hC.cell i (by rw [List.length_map];omega);rw [this];simp [List.getD,show i<xs.length by omega]
 simp [execOp,hx,key]
end
end Go.Eng
