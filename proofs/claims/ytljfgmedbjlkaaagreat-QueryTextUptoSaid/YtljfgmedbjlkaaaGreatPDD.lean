/- A part of the engine: steps over the model. Over any program. -/
import Derived.Test.YtljfgmedbjlkaaaGreatTQ
import Derived.Test.YtljfgmedbjlkaaaGreatPDH
import Derived.Test.YtljfgmedbjlkaaaGreatVA
import Derived.Test.YtljfgmedbjlkaaaGreatVC
import Derived.Test.YtljfgmedbjlkaaaGreatProg
import Derived.Test.YtljfgmedbjlkaaaGreatPDC
import Derived.Test.YtljfgmedbjlkaaaGreatPDI
import Derived.Test.YtljfgmedbjlkaaaGreatPPE
namespace Go.Proofs.YtljfgmedbjlkaaaGreat
open Go.RowKit Go.Eng Go.QP Go.Sort Go.Lib
theorem O7 (xs:List Ti) (a:Option Addr) (c:Nat) (s:ByteArray) (w0:World) (hs:Srm IQ w0.heap a xs.length c xs) :
  Calls Tryz.prog 157 #[.slice a xs.length c,.string s] w0 λe w'=>((∃ i:Nat,i<xs.length/\e= .returned (.int .i64 (i:Int))/\(el xs i).1=s)\/(e= .returned (.int .i64 (-1))/\∀ t ∈ xs,t.1≠s))/\w0=w':=by
 have hcap:=hs.cap;refine enter Tryz.func157 rfl 20 Tryz.ntmps157 rfl<|sZ rfl<|seqJ λ_ C D _=>sZ rfl<|blockJ λ_ _ E _ G=>ay (α:=Nat) (λx=>[(0,.slice a xs.length c),(1,.string s),(5,vN x)]) (λx H=>w0=H/\x<=xs.length/\∀ q,q<x->(el xs q).1≠s) (λx=>xs.length-x) (0) ⟨rfl,rfl,rfl,trivial⟩ ?_ ?_
 .refine ⟨rfl,?_⟩;(try dsimp only);exact ⟨Nat.zero_le _,λq h=>absurd h (Nat.not_lt_zero _)⟩
 .rintro X i Y ⟨rfl,⟨hi,hq⟩⟩;(try dsimp only at hi hq);intro Z I J K;refine seqJ λ_ L _ M=>sZ rfl<|cnd (p:=i<xs.length) rfl (λN=>?_) (λN=>?_)
  .refine skip<|L<|seqJ λ_ O R _=>blockJ λ_ U V _ _=>sL (.f hs 0 (i:=i) (by omega) rfl .z) rfl rfl<|cnd (p:=((el xs i).1).toList=s.toList) rfl (λA=>?_) (λA=>?_)
   .exact sZ rfl<|ret<|V<|R<|J _ _<|E<|D<|leave1 (v:=vN i) rfl rfl<|⟨.inl ⟨i,by assumption,rfl,aC ‹_›⟩,rfl⟩
   .refine skip<|U<|O<|rL (.a1 (by omega) .z) rfl rfl<|I _ ((i+1)) _ ⟨rfl,rfl,rfl,trivial⟩ ⟨rfl,?_⟩ ?_
    ·(try dsimp only);exact ⟨by omega,λq h=>(Nat.lt_or_ge q i).elim (hq q) λB=>by rw [show q=i by omega];exact λW=>A (by rw [W])⟩
    ·(try dsimp only);omega
  .exact exit<|M<|K _ _ _<|G<|C<|sZ rfl<|ret<|leave1 (v:=.int .i64 (-1)) rfl rfl<|⟨.inr ⟨rfl,λt ht=>by obtain ⟨q,aa,B⟩:=aU ht;rw [← B];exact hq q (by omega)⟩,rfl⟩
theorem Je (a:ByteArray):¬ cb a a<0:=by rw [show cb a a=0 from dY _];omega
theorem FO {z y:Dp} (h:z.1≠y.1):ltOf mG z y=true↔cb z.1 y.1<0:=by
 rw [ue];exact ⟨λq=>q.elim id λq=>absurd q.1 h,.inl⟩
theorem Fq {z y:Dp} (e:z.1=y.1) (h:z.2.1≠y.2.1):ltOf mG z y=true↔cb z.2.1 y.2.1<0:=by
 rw [ue,e];exact ⟨λq=>q.elim (λq=>absurd q (Je _)) λq=>q.2.elim id λq=>absurd q.1 h,λq=>.inr ⟨rfl,.inl q⟩⟩
theorem yu {z y:Dp} (e:z.1=y.1) (e2:z.2.1=y.2.1):ltOf mG z y=true↔z.2.2=false/\y.2.2=true:=by
 rw [ue,e,e2];exact ⟨λq=>q.elim (λq=>absurd q (Je _)) λq=>q.2.elim (λq=>absurd q (Je _)) λq=>q.2,λq=>.inr ⟨rfl,.inr ⟨rfl,q⟩⟩⟩
theorem Aw (z y:Dp) (w0:World) :
  Calls Tryz.prog 273 #[.agg (eDp.enc z).toArray,.agg (eDp.enc y).toArray] w0 λe w'=>e= .returned (vB (ltOf mG z y=true))/\Ext w0 w':=by
 refine enter Tryz.func273 rfl 32 Tryz.ntmps273 rfl<|sj λ_ G=>st_e<|Ebx (v:=.agg #[.string z.1,.string z.2.1,.bool z.2.2]) (Hp.start No w0) rfl λ_ _ H _=>st_e<|Ebx (v:=.agg #[.string y.1,.string y.2.1,.bool y.2.2]) H rfl λ_ _ A _=>qt asg<|nl<|G<|seqJ λ_ I J _=>sL (.b A 1 0 rfl (.b A 0 0 rfl .z)) rfl rfl<|cnd (p:=z.1.toList≠y.1.toList) rfl (λB=>?_) (λB=>?_)
 .exact sL (.b A 1 0 rfl (.b A 0 0 rfl .z)) rfl rfl<|ret<|J<|leave1 (v:=vB (Op.bytesLess z.1.toList y.1.toList=true)) rfl rfl<|⟨congrArg Ending.returned (dq (q:=ltOf mG z y=true) ((j7 _ _).trans (FO (λe=>absurd (congrArg ByteArray.toList e) ‹_›)).symm)),A.x⟩
 .refine skip<|I<|seqJ λ_ K L _=>sL (.b A 1 1 rfl (.b A 0 1 rfl .z)) rfl rfl<|cnd (p:=z.2.1.toList≠y.2.1.toList) rfl (λC=>?_) (λC=>?_)
  .exact sL (.b A 1 1 rfl (.b A 0 1 rfl .z)) rfl rfl<|ret<|L<|leave1 (v:=vB (Op.bytesLess z.2.1.toList y.2.1.toList=true)) rfl rfl<|⟨congrArg Ending.returned (dq (q:=ltOf mG z y=true) ((j7 _ _).trans (Fq (aC (Decidable.of_not_not ‹_›)) (λe=>absurd (congrArg ByteArray.toList e) ‹_›)).symm)),A.x⟩
  .refine skip<|K<|sj λ_ E=>qR 2 (.b A 1 2 rfl .z) rfl rfl<|qt (d9 rfl)<|st_if (p:=¬ (z.2.2=true)) (ai rfl) (λD=>?_) (λD=>?_)
   .refine qR 4 (.b A 0 2 rfl .z) rfl rfl<|nl<|E<|ret<|leave1 (v:=.bool y.2.2) rfl rfl<|?_;have hE1:z.1=y.1:=aC (Decidable.of_not_not B);have hE2:z.2.1=y.2.1:=aC (Decidable.of_not_not C);have hF:z.2.2=false:=Bool.eq_false_iff.2 D;exact ⟨congrArg Ending.returned ((bq (p:=ltOf mG z y=true) ((yu hE1 hE2).trans ⟨λh=>h.2,λh=>⟨hF,h⟩⟩)).symm),A.x⟩
   .refine qZ 4 rfl<|nl<|E<|ret<|leave1 (v:=.bool false) rfl rfl<|?_;have hE1:z.1=y.1:=aC (Decidable.of_not_not B);have hE2:z.2.1=y.2.1:=aC (Decidable.of_not_not C);exact ⟨congrArg Ending.returned (dF (p:=ltOf mG z y=true) (λh=>absurd ((yu hE1 hE2).1 h).1 (by rw [Decidable.of_not_not D];decide))),A.x⟩
theorem T.cf273:CF Tryz.prog 273:=λ_ _=>by kernel_rfl
theorem T.eq3_227:EQ3 Tryz.prog 227:=⟨⟨_,_,_,Tryz.underlying227,rfl,rfl,rfl,rfl,rfl,rfl,Tryz.underlying9,Tryz.underlying9,Tryz.underlying4⟩,by kernel_rfl,by kernel_rfl⟩
theorem Ko (ds:List Dp) (d:Dp) (a:Option Addr) (c:Nat) (S:Nat->Prop) (w0:World) (H0:Hp S w0 w0 [cQ 227 eDp a ds.length c ds]) (hs:SrtD ds) (hl:ds.length<=1200000000000) :
  Calls Tryz.prog 218 #[.slice a ds.length c,.agg (eDp.enc d).toArray] w0 λe w'=>∃ ds' a c,e= .returned (.slice a ds'.length c)/\SrtD ds'/\(∀ x,x ∈ ds'↔x ∈ ds\/x=d)/\ds'.length<=ds.length+1/\Hp S w0 w' [cQ 227 eDp a ds'.length c ds']:=by
 refine enter Tryz.func218 rfl 59 Tryz.ntmps218 rfl<|sj λ_ Y=>st_e<|Ebx (v:=.agg #[.string d.1,.string d.2.1,.bool d.2.2]) H0 rfl λA _ Z _=>qt asg<|nl<|Y<|sZ rfl<|seqLK (n:=59) (ds:=[]) (α:=Nat) (λx=>[(0,.slice a ds.length c),(3,.pointer (some ⟨A,0,none⟩)),(5,vN x)]) (λx aa=>Hp S w0 aa [cB A 227 [.string d.1,.string d.2.1,.bool d.2.2],cQ 227 eDp a ds.length c ds]/\x<=ds.length/\(∀ q,q<x->ltOf mG (el ds q) d=true)/\(x<ds.length->¬ ltOf mG (el ds x) d=true)) ?_ ?_
 .intro Ea I Fa Ga;refine blockJ λ_ _ _ _ J=>ay (α:=Nat) (λx=>[(0,.slice a ds.length c),(3,.pointer (some ⟨A,0,none⟩)),(5,vN x)]) (λx ba=>Hp S w0 ba [cB A 227 [.string d.1,.string d.2.1,.bool d.2.2],cQ 227 eDp a ds.length c ds]/\x<=ds.length/\∀ q,q<x->ltOf mG (el ds q) d=true) (λx=>ds.length-x) (0) ⟨rfl,rfl,rfl,trivial⟩ ?_ ?_
  .refine ⟨(Z.pick [0,1] (by decide)),?_⟩;(try dsimp only);exact ⟨Nat.zero_le _,λq h=>absurd h (Nat.not_lt_zero _)⟩
  .rintro Ha i Ia ⟨ca,⟨hi,hq⟩⟩;(try dsimp only at hi hq);intro Ja da Ka K;refine seqJ λ_ ea _ L=>seqJ λ_ M _ _=>rgS [10] (by kernel_rfl) λ_ fa G=>?_;have D:=ca.ext fa;refine dW 4 .z rfl rfl<|d_if rfl rfl (p:=i<ds.length) (λ_=>mv) (λga=>?_) (λga=>?_)
   .refine dW 5 (.e (D.srQ 1 rfl) (i:=i) (by omega) (.d D 0 0 3 rfl .z)) rfl rfl<|d_e (by decide)<|d_c' rfl (iW (j:=4) (t:=11) rfl rfl (by decide)) (aT _ T.cf273 rfl rfl) (Aw (el ds i) d _) λ_ _ ⟨er,N⟩=>⟨_,er,?_⟩;have O:=D.ext N;have ha:=G.trans (N.mono G.size);refine ⟨λ_=>ha,?_⟩;refine d_q rfl rfl (λ_=>wj rfl)<|d_done<|M<|cnd (p:=ltOf mG (el ds i) d=true) rfl (λia=>?_) (λia=>?_)
    .refine skip<|ea<|blockJ λ_ ja _ _ _=>rL (.a1 (by omega) .z) rfl rfl<|ja<|da _ ((i+1)) _ ⟨rfl,rfl,rfl,trivial⟩ ⟨(O.pick [0,1] (by decide)),?_⟩ ?_
     ·(try dsimp only);exact ⟨by omega,λq h=>(Nat.lt_or_ge q i).elim (hq q) λ_=>by rw [show q=i by omega];assumption⟩
     ·(try dsimp only);omega
    .refine exit<|L<|K _ _ _<|J<|I _ (i) _ ⟨rfl,rfl,rfl,trivial⟩ ⟨(O.pick [0,1] (by decide)),?_⟩;(try dsimp only);exact ⟨hi,hq,λh=>by first | assumption | exact absurd h ‹_›⟩
   .refine dW 5 .z rfl rfl<|d_e (by decide)<|wpE_skip (j:=4) (t:=11) rfl rfl rfl (by decide) rfl (λ_=>G)<|d_q rfl rfl (λ_=>LV rfl)<|d_done<|M<|cndF rfl<|exit<|L<|K _ _ _<|J<|I _ (i) _ ⟨rfl,rfl,rfl,trivial⟩ ⟨(D.pick [0,1] (by decide)),?_⟩;(try dsimp only);exact ⟨hi,hq,λh=>by first | assumption | exact absurd h ‹_›⟩
 .rintro La i Ma ⟨R,⟨hi,hq,hlt⟩⟩;(try dsimp only at R hi hq hlt ⊢);refine seqLK (n:=59) (ds:=[]) (α:=Unit) (λ_=>[(0,.slice a ds.length c),(3,.pointer (some ⟨A,0,none⟩)),(5,vN i)]) (λ_ ka=>Hp S w0 ka [cB A 227 [.string d.1,.string d.2.1,.bool d.2.2],cQ 227 eDp a ds.length c ds]/\(i<ds.length->el ds i≠d)) ?_ ?_
  .intro Na U la Oa;refine seqJ λ_ V _ _=>rgS [] (by kernel_rfl) λ_ ma _=>?_;have C:=R.ext ma;refine dW 4 .z rfl rfl<|d_if rfl rfl (p:=i<ds.length) (λ_=>mv) (λna=>?_) (λna=>?_)
   .refine dW 5 (.e (C.srQ 1 rfl) (i:=i) (by omega) (.d C 0 0 3 rfl .z)) rfl rfl<|d_gq (j:=4) (t:=25) rfl rfl rfl rfl (by decide) (λ_=>NF T.eq3_227 rfl rfl)<|d_q rfl rfl (λ_=>wj rfl)<|d_done<|V<|cnd (p:=(el ds i)=d) rfl (λoa=>?_) (λoa=>?_)
    .exact sZ rfl<|ret<|la _ _<|leave1 (v:=.slice a ds.length c) rfl rfl<|⟨ds,_,_,rfl,hs,λx=>⟨.inl,λh=>h.elim id λe=>by rw [e,← (by assumption:el ds i=d)];exact ak ‹_›⟩,by omega,(C.pick [1] (by decide))⟩
    .refine skip<|U _ () _ ⟨rfl,rfl,rfl,trivial⟩ ⟨(C.pick [0,1] (by decide)),?_⟩;exact λh=>by first | assumption | exact absurd h ‹_›
   .refine dW 7 .z rfl rfl<|d_done<|V<|cndF rfl<|skip<|U _ () _ ⟨rfl,rfl,rfl,trivial⟩ ⟨(C.pick [0,1] (by decide)),?_⟩;exact λh=>by first | assumption | exact absurd h ‹_›
  .rintro Pa _ Qa ⟨W,hne⟩;refine sj λ_ pa=>qR 2 (.d W 0 0 3 rfl .z) rfl rfl<|st_e<|Ebs (cs:=[.string d.1,.string d.2.1,.bool d.2.2]) (e:=227) W (λ_=>by kernel_rfl) λ_ _ X _=>st_e<|EapQ X 2 T.sl222 rfl rfl rfl (X.lst (E:=eDp) 0 rfl d rfl) (by omega) rfl rfl λa78 H _ qa=>qt asg<|nl<|pa<|seqJ λ_ ra _ _=>sL (.s1 (by omega) (by omega) .z) rfl rfl<|blockJ λ_ _ _ _ sa=>ay (α:=Nat × (List Dp)) (λx=>[(0,.slice a78 (ds.length+1) H),(3,.pointer (some ⟨A,0,none⟩)),(5,vN i),(6,vN x.1)]) (λx ta=>Hp S w0 ta [cB A 227 [.string d.1,.string d.2.1,.bool d.2.2],cQ 227 eDp a78 (ds.length+1) H x.2]/\i<=x.1/\x.1<=ds.length/\ShD ds x.2 x.1) (λx=>x.1) (ds.length,(ds++[d])) ⟨rfl,rfl,rfl,rfl,trivial⟩ ?_ ?_
   .refine ⟨(qa.pick [1,2] (by decide)),?_⟩;(try dsimp only);exact ⟨hi,Nat.le_refl _,ShD.start⟩
   .rintro Ra ⟨j,xs⟩ Sa ⟨B,⟨hij,hj,hsh⟩⟩;(try dsimp only at hij hj hsh);intro Ta ua Ua va;dsimp only at B ⊢;refine seqJ λ_ wa _ xa=>sZ rfl<|cnd (p:=i<j) rfl (λya=>?_) (λya=>?_)
    .refine skip<|wa<|seqJ λ_ za _ _=>blockJ λ_ Aa _ _ _=>region<|qR 8 (.s1 (by omega) (by omega) (.e (B.srQ 1 rfl) (i:=(j-1)) (by omega) (.x ((B.srQ 1 rfl).addr (by omega)) (by omega) .z))) rfl rfl<|st_s<|EsoQ (j:=j) B 1 (el xs (j-1)) T.sz227 rfl rfl rfl rfl (by omega) λ_ Ba=>nl<|Aa<|za<|rL (.s1 (by omega) (by omega) .z) rfl rfl<|ua _ ((j-1),(xs.set j (el xs (j-1)))) _ ⟨rfl,rfl,rfl,rfl,trivial⟩ ⟨(Ba.pick [0,1] (by decide)),?_⟩ ?_
     ·(try dsimp only);exact ⟨by omega,by omega,hsh.step (by omega) hj⟩
     ·(try dsimp only);omega
    .refine exit<|xa<|va _ _ _<|sa<|ra<|sj λ_ Ca=>qR 4 (.d B 0 0 3 rfl (.x ((B.srQ 1 rfl).addr (by omega)) (by omega) .z)) rfl rfl<|st_s<|EsoQ (j:=i) B 1 d T.sz227 rfl rfl rfl rfl (by omega) λ_ Da=>nl<|Ca<|sZ rfl<|ret<|leave1 (v:=.slice a78 (ds.length+1) H) rfl rfl<|?_;have e:=ShD.done (d:=d) (show ShD ds xs i by rw [show i=j by omega];exact hsh) hi;have hp:=hs.put (d:=d) hi hq (λh=>⟨hlt h,hne h⟩);rw [← e] at hp;have hlen:(xs.set i d).length=ds.length+1:=by rw [e,List.length_append,List.length_cons,List.length_take,List.length_drop];omega
     exact ⟨xs.set i d,_,_,by rw [hlen],hp.1,hp.2,by omega,by rw [hlen];exact (Da.pick [1] (by decide))⟩
theorem T.cf218:CF Tryz.prog 218:=λ_ _=>by kernel_rfl
theorem SrtD.nd {ds:List Dp} (h:SrtD ds):ds.Nodup:=h.imp λ{a b} q e=>by subst e;rw [swoDp.irrefl] at q;cases q
theorem Kk {x:Px} (hb:PgB x.p) {k m:Nat} (hk:k<x.rules.length) (hm:m<=(el x.rules k).rows.length) {ds:List Dp} (h:SrtD ds) (he:∀ y,y ∈ ds↔y ∈ dR x.p k++dL (el x.rules k).r m):ds.length<=1200000000000:=
 Nat.le_trans (gp h.nd λy hy=>(he y).1 hy) (Nat.le_trans (PU hb hk hm) (by decide))
theorem JU {x:Px} {ds:List Dp} (h:SrtD ds) (he:∀ y,y ∈ ds↔y ∈ dR x.p x.rules.length):rz x.p ds:=
 ⟨λi j hij hj=>by rw [aF (by omega),aF hj];exact List.pairwise_iff_getElem.1 h i j _ _ hij,λd=>by rw [nT];exact he d⟩
theorem Ii (g:Px) (w0:World) (hx:PxM w0.heap g/\PgB g.p) :
  Calls Tryz.prog 156 #[.agg g.cells.toArray] w0 λe w'=>(aA g.p≠0/\e= .returned (.tuple #[.slice none 0 0,.int .i64 (aA g.p:Nat)])/\Ext w0 w')\/
   (aA g.p=0/\∃ ds a c,e= .returned (.tuple #[.slice a ds.length c,.int .i64 0])/\rz g.p ds/\Hp No w0 w' [cQ 227 eDp a ds.length c ds]):=by
 have hcap1:=hx.1.1.cap;have hcap2:=hx.1.2.1.cap;have hcap3:=hx.1.2.2.1.cap;refine enter Tryz.func156 rfl 65 Tryz.ntmps156 rfl<|sj λ_ N=>st_e<|Ebx (v:=.agg g.cells.toArray) (Hp.start No w0) rfl λD _ G _=>qZ 2 rfl<|nl<|N<|sj λ_ O=>qR 1 (.d G 0 0 3 rfl .z) rfl rfl<|cl T.cf92 (tu g _ ⟨hx.1.ext G.x,hx.2⟩) rfl λ_ _ ⟨uk,ui,us,er,R⟩=>⟨_,er,?_⟩;have U:=G.ext R;refine qZ 3 rfl<|st_e<|Eal U T.zv152 λ_ _ V _=>st_s<|Est (v:=.agg #[.int .i64 uk,.int .i64 ui,.string us]) V 0 T.sz152 rfl rfl rfl rfl rfl rfl λ_ I=>qt asg<|nl<|O<|seqJ λ_ W X _=>sZ rfl<|cnd (p:=(aA g.p)≠0) rfl (λY=>?_) (λY=>?_)
 .refine sZ rfl<|ret<|X<|leave2 (v:=.slice none 0 0) (v':=vN (aA g.p)) rfl rfl rfl ?_;exact .inl ⟨by assumption,rfl,I.x⟩
 .refine skip<|W<|sZ rfl<|seqJ λ_ Z _ _=>sZ rfl<|blockJ λ_ _ _ _ aa=>ay (α:=Nat × (List Dp) × (Option Addr) × Nat × Nat) (λx=>[(1,.pointer (some ⟨D,0,none⟩)),(6,.slice x.2.2.1 x.2.2.2.2 x.2.2.2.1),(7,vN x.1)]) (λx ba=>Hp No w0 ba [cB D 43 g.cells,cQ 227 eDp x.2.2.1 x.2.2.2.2 x.2.2.2.1 x.2.1]/\x.1<=g.rules.length/\x.2.2.2.2=x.2.1.length/\SrtD x.2.1/\∀ y,y ∈ x.2.1↔y ∈ dR g.p x.1) (λx=>g.rules.length-x.1) (0,[],none,0,0) ⟨rfl,rfl,rfl,trivial⟩ ?_ ?_
  .refine ⟨((I.nilQ 227 eDp).pick [2,0] (by decide)),?_⟩;(try dsimp only);exact ⟨Nat.zero_le _,rfl,List.Pairwise.nil,λ_=>Iff.rfl⟩
  .rintro xa ⟨k,ds,aq,cq,n⟩ ya ⟨B,⟨hk,hn,hs,hm⟩⟩;(try dsimp only at hk hn hs hm);intro za ca Aa da;dsimp only at B ⊢;refine seqJ λ_ ea _ fa=>sL (.b B 0 2 rfl .z) rfl rfl<|cnd (p:=k<g.rules.length) rfl (λga=>?_) (λga=>?_)
   .refine skip<|ea<|seqJ λ_ ha _ _=>blockJ λ_ ia _ _ _=>sj λ_ ja=>qR 5 (.b B 0 2 rfl (.e (hx.1.2.2.1.e B) (i:=k) (by omega) .z)) rfl rfl<|st_e<|Eal B T.zv60 λH _ ka _=>st_s<|Est (v:=.agg (eRu.enc (el g.rules k)).toArray) ka 0 T.sz60 rfl rfl rfl rfl rfl rfl λ_ la=>nl<|ja<|sZ rfl<|blockJ λ_ _ _ _ ma=>ay (α:=Nat × (List Dp) × (Option Addr) × Nat × Nat) (λx=>[(1,.pointer (some ⟨D,0,none⟩)),(6,.slice x.2.2.1 x.2.2.2.2 x.2.2.2.1),(7,vN k),(8,.pointer (some ⟨H,0,none⟩)),(9,vN x.1)]) (λx na=>Hp No w0 na [cB D 43 g.cells,cB H 60 (eRu.enc (el g.rules k)),cQ 227 eDp x.2.2.1 x.2.2.2.2 x.2.2.2.1 x.2.1]/\x.1<=(el g.rules k).rows.length/\x.2.2.2.2=x.2.1.length/\SrtD x.2.1/\∀ y,y ∈ x.2.1↔y ∈ dR g.p k++dL (el g.rules k).r x.1) (λx=>(el g.rules k).rows.length-x.1) (0,ds,aq,cq,n) ⟨rfl,rfl,rfl,rfl,rfl,trivial⟩ ?_ ?_
    .refine ⟨(la.pick [1,0,2] (by decide)),?_⟩;(try dsimp only);exact ⟨Nat.zero_le _,hn,hs,λx=>by rw [hm,dL,List.append_nil]⟩
    .rintro Ba ⟨m,ds,aq,cq,n⟩ Ca ⟨A,⟨hmm,hn,hs,hm⟩⟩;(try dsimp only at hmm hn hs hm);intro Da J Ea oa;dsimp only at A ⊢;have hcap4:=(hx.1.2.2.2 k ‹_›).2.1.cap;have hdl:=Kk hx.2 ‹_› hmm hs hm;refine seqJ λ_ pa _ qa=>sL (.b A 1 2 rfl .z) rfl rfl<|cnd (p:=m<((el g.rules k).rows.length)) rfl (λra=>?_) (λra=>?_)
     .refine skip<|pa<|seqJ λ_ K _ _=>blockJ λ_ L _ _ _=>sL (.b A 1 2 rfl (.f ((hx.1.2.2.2 k ‹_›).2.1.e A) 0 (i:=m) (by omega) rfl (.i .z))) rfl rfl<|cnd (p:=((el ((el g.rules k).rows) m).1.kind)≠3) rfl (λE=>?_) (λE=>?_)
      .refine rgS [19] (by kernel_rfl) λsa ta _=>?_;have C:=A.ext ta;refine dW 18 (.b C 1 0 rfl (.b C 1 2 rfl (.f ((hx.1.2.2.2 k ‹_›).2.1.e C) 1 (i:=m) (by omega) rfl (.b C 1 2 rfl (.f ((hx.1.2.2.2 k ‹_›).2.1.e C) 0 (i:=m) (by omega) rfl (.i .z)))))) rfl rfl<|d_q (v:=.agg #[.string ((el g.rules k).hp),.string ((el ((el g.rules k).rows) m).1.pred),vB (((el ((el g.rules k).rows) m).1.kind)=2)]) rfl rfl (λ_=>aw (λ_=>by kernel_rfl))<|?_;subst hn;have M:Hp No w0 sa ([cQ 227 eDp aq ds.length cq ds]++[cB D 43 g.cells,cB H 60 (eRu.enc (el g.rules k))]):=(C.pick [2,0,1] (by decide));refine d_e (by decide)<|d_c' rfl rfl (aT _ T.cf218 rfl rfl) (Ko ds ((el g.rules k).hp,(el ((el g.rules k).rows) m).1.pred,decide (((el ((el g.rules k).rows) m).1.kind)=2)) _ _ _ _ M.startL hs (by omega)) λ_ _ ⟨ds2,a98,ua,er,hs2,hm2,hl2,va⟩=>⟨_,er,?_⟩;have wa:=M.callL va;refine ⟨bv (by kernel_rfl),?_⟩;refine d_q rfl rfl (λ_=>asg)<|d_done<|L<|K<|rL (.a1 (by omega) .z) rfl rfl<|J _ ((m+1),ds2,a98,ua,ds2.length) _ ⟨rfl,rfl,rfl,rfl,rfl,trivial⟩ ⟨(wa.pick [1,2,0] (by decide)),?_⟩ ?_
       .try dsimp only
        first | exact ⟨by omega,hn,hs,λx=>by rw [Ey ‹_› E];exact hm x⟩ | exact ⟨by omega,rfl,hs2,λx=>by rw [D6 ‹_› E,← List.append_assoc,List.mem_append,List.mem_singleton,hm2,hm]⟩
       ·(try dsimp only);omega
      .refine skip<|L<|K<|rL (.a1 (by omega) .z) rfl rfl<|J _ ((m+1),ds,aq,cq,n) _ ⟨rfl,rfl,rfl,rfl,rfl,trivial⟩ ⟨(A.pick [0,1,2] (by decide)),?_⟩ ?_
       .try dsimp only
        first | exact ⟨by omega,hn,hs,λx=>by rw [Ey ‹_› E];exact hm x⟩ | exact ⟨by omega,rfl,hs2,λx=>by rw [D6 ‹_› E,← List.append_assoc,List.mem_append,List.mem_singleton,hm2,hm]⟩
       ·(try dsimp only);omega
     .refine exit<|qa<|oa _ _ _<|ma<|ia<|ha<|rL (.a1 (by omega) .z) rfl rfl<|ca _ ((k+1),ds,aq,cq,n) _ ⟨rfl,rfl,rfl,trivial⟩ ⟨(A.pick [0,2] (by decide)),?_⟩ ?_
      ·(try dsimp only);exact ⟨by omega,hn,hs,λx=>by rw [OH ‹_›,hm,show m=(el g.rules k).rows.length by omega]⟩
      ·(try dsimp only);omega
   .refine exit<|fa<|da _ _ _<|aa<|Z<|sZ rfl<|ret<|leave2 (v:=.slice aq n cq) (v':=vN 0) rfl rfl rfl ?_;subst hn;have e:k=g.rules.length:=by omega
    subst e;exact .inr ⟨Decidable.of_not_not ‹_›,_,_,_,rfl,JU hs hm,(B.pick [1] (by decide))⟩
theorem T.sl105:SL Tryz.prog 105 110 3 48 (.agg #[.string ByteArray.empty,vN 0,.slice none 0 0]):=aY Tryz.underlying105 (by kernel_rfl) rfl (by decide)
theorem CL (xs:List nX) (a:Option Addr) (c:Nat) (s:ByteArray) (w0:World) (hs:Srm nQ w0.heap a xs.length c xs) :
  Calls Tryz.prog 48 #[.slice a xs.length c,.string s] w0 λe w'=>((∃ i:Nat,i<xs.length/\e= .returned (.int .i64 (i:Int))/\(el xs i).1=s)\/(e= .returned (.int .i64 (-1))/\∀ t ∈ xs,t.1≠s))/\w0=w':=by
 have hcap:=hs.cap;refine enter Tryz.func48 rfl 20 Tryz.ntmps48 rfl<|sZ rfl<|seqJ λ_ C D _=>sZ rfl<|blockJ λ_ _ E _ G=>ay (α:=Nat) (λx=>[(0,.slice a xs.length c),(1,.string s),(5,vN x)]) (λx H=>w0=H/\x<=xs.length/\∀ q,q<x->(el xs q).1≠s) (λx=>xs.length-x) (0) ⟨rfl,rfl,rfl,trivial⟩ ?_ ?_
 .refine ⟨rfl,?_⟩;(try dsimp only);exact ⟨Nat.zero_le _,λq h=>absurd h (Nat.not_lt_zero _)⟩
 .rintro X i Y ⟨rfl,⟨hi,hq⟩⟩;(try dsimp only at hi hq);intro Z I J K;refine seqJ λ_ L _ M=>sZ rfl<|cnd (p:=i<xs.length) rfl (λN=>?_) (λN=>?_)
  .refine skip<|L<|seqJ λ_ O R _=>blockJ λ_ U V _ _=>sL (.f hs 0 (i:=i) (by omega) rfl .z) rfl rfl<|cnd (p:=((el xs i).1).toList=s.toList) rfl (λA=>?_) (λA=>?_)
   .exact sZ rfl<|ret<|V<|R<|J _ _<|E<|D<|leave1 (v:=vN i) rfl rfl<|⟨.inl ⟨i,by assumption,rfl,aC ‹_›⟩,rfl⟩
   .refine skip<|U<|O<|rL (.a1 (by omega) .z) rfl rfl<|I _ ((i+1)) _ ⟨rfl,rfl,rfl,trivial⟩ ⟨rfl,?_⟩ ?_
    ·(try dsimp only);exact ⟨by omega,λq h=>(Nat.lt_or_ge q i).elim (hq q) λB=>by rw [show q=i by omega];exact λW=>A (by rw [W])⟩
    ·(try dsimp only);omega
  .exact exit<|M<|K _ _ _<|G<|C<|sZ rfl<|ret<|leave1 (v:=.int .i64 (-1)) rfl rfl<|⟨.inr ⟨rfl,λt ht=>by obtain ⟨q,aa,B⟩:=aU ht;rw [← B];exact hq q (by omega)⟩,rfl⟩
theorem T.cf95:CF Tryz.prog 95:=λ_ _=>by kernel_rfl
theorem T.cf156:CF Tryz.prog 156:=λ_ _=>by kernel_rfl
theorem T.cf157:CF Tryz.prog 157:=λ_ _=>by kernel_rfl
theorem GX {p:Pg} {ds:List Dp} (h:rz p ds):ds.Nodup:=SrtD.nd (List.pairwise_iff_getElem.2 λi j hi hj hij=>by have:=h.1 i j hij hj;rwa [aF hi,aF hj] at this)
theorem Js (g:Px) (w0:World) (hx:PxM w0.heap g/\PgB g.p) (h0:aA g.p=0) :
  Calls Tryz.prog 156 #[.agg g.cells.toArray] w0 λe w'=>∃ ds a c,e= .returned (.tuple #[.slice a ds.length c,.int .i64 0])/\rz g.p ds/\ds.length<=1200000000000/\Hp No w0 w' [cQ 227 eDp a ds.length c ds]:=by
 refine (Ii g w0 hx).mono λe w' h=>?_
 rcases h with ⟨h,_⟩ | ⟨_,ds,a,c,h1,h2,h3⟩
 .exact absurd h0 h
 .exact ⟨ds,a,c,h1,h2,Nat.le_trans (gp (GX h2) λd hd=>(h2.2 d).1 hd) (Nat.le_trans (by rw [nT];exact BG hx.2) (by decide)),h3⟩
theorem IM (xs:List Ti) (a:Option Addr) (m c:Nat) (s:ByteArray) (w0:World) (hs:Srm IQ w0.heap a m c xs) (hin:s ∈ xs.map (·.1)) :
  Calls Tryz.prog 157 #[.slice a m c,.string s] w0 λe w'=>∃ i:Nat,i<m/\e= .returned (.int .i64 (i:Int))/\(el xs i).1=s/\Ext w0 w':=by
 have hl:=hs.len;subst hl;refine (O7 xs a c s w0 hs).mono λe w' h=>?_;obtain ⟨⟨i,h1,h2,h3⟩ | ⟨_,h2⟩,h4⟩:=h
 .exact ⟨i,h1,h2,h3,h4▸Below.refl _ _⟩
 .obtain ⟨t,ht,e⟩:=List.mem_map.1 hin;exact absurd e (h2 t ht)
theorem Eg (g:Px) (w0:World) (hx:PxM w0.heap g/\PgB g.p) :
  Calls Tryz.prog 94 #[.agg g.cells.toArray] w0 λe w'=>∃ (v:Value) (c:Nat),e= .returned (.tuple #[v,.int .i64 (c:Nat)])/\NQ g.p c/\Ext w0 w':=by
 refine enter Tryz.func94 rfl 91 Tryz.ntmps94 rfl<|sj λ_ ia=>st_e<|Ebx (v:=.agg g.cells.toArray) (Hp.start No w0) rfl λ_ _ D _=>qZ 2 rfl<|nl<|ia<|sj λ_ V=>qR 1 (.d D 0 0 3 rfl .z) rfl rfl<|cl T.cf95 (yl g _ ⟨hx.1.ext D.x,hx.2⟩) rfl λ_ _ hc10=>?_
 rcases hc10 with ⟨hne,rfl,X⟩ | ⟨G,rs,ra,rc,rfl,hrs,hrl,K⟩
 .refine ⟨_,rfl,?_⟩;have ja:=D.ext X;refine qZ 5 rfl<|nl<|V<|seqJ λ_ _ ka _=>sZ rfl<|cndY (p:=(aA g.p)≠0) rfl (not_not_intro hne)<|sZ rfl<|ret<|ka<|leave2 (v:=.slice none 0 0) (v':=vN (aA g.p)) rfl rfl rfl ?_;exact ⟨_,_,rfl,.inl ⟨hne,rfl⟩,ja.x⟩
 .refine ⟨_,rfl,?_⟩;have M:=D.app' K;have hps:(rs.map (·.1)).length=rs.length:=List.length_map _;have hnd:=hrs.nd;refine qZ 5 rfl<|nl<|V<|seqJ λ_ la _ _=>sZ rfl<|cndN (p:=0≠0) rfl ((λh=>h rfl))<|skip<|la<|sj λ_ ma=>qR 1 (.d M 1 0 3 rfl .z) rfl rfl<|?_;have hdd:=Js g _ ⟨hx.1.ext M.x,hx.2⟩ G;refine cl T.cf156 (hdd) rfl λ_ _ ⟨ds,da,dc,er,hds,hdl,na⟩=>⟨_,er,?_⟩;have oa:=M.app' na;have hsv:=Solv.congr hds.2;have hq1:∀ d ∈ ds,d.1 ∈ rs.map (·.1):=λd hd=>hrs.has (ny ((hds.2 d).1 hd)).1;have hq2:∀ d ∈ ds,d.2.1 ∈ rs.map (·.1):=λd hd=>hrs.has (ny ((hds.2 d).1 hd)).2;refine qZ 5 rfl<|nl<|ma<|sZ rfl<|seqJ λ_ pa _ _=>sZ rfl<|blockJ λ_ _ _ _ qa=>ay (α:=Nat × (List Ti) × (Option Addr) × Nat × Nat) (λx=>[(4,.slice ra rs.length rc),(6,.slice da ds.length dc),(8,.slice x.2.2.1 x.2.2.2.2 x.2.2.2.1),(9,vN x.1)]) (λx sa=>Hp No w0 sa [cQ 100 eRo ra rs.length rc rs,cQ 227 eDp da ds.length dc ds,cQ 229 IQ x.2.2.1 x.2.2.2.2 x.2.2.2.1 x.2.1]/\x.1<=rs.length/\x.2.2.2.2=x.2.1.length/\x.2.1=(rs.take x.1).map λr=>(r.1,0)) (λx=>rs.length-x.1) (0,[],none,0,0) ⟨rfl,rfl,rfl,rfl,trivial⟩ ?_ ?_
  .refine ⟨((oa.nilQ 229 IQ).pick [2,1,0] (by decide)),?_⟩;(try dsimp only);exact ⟨Nat.zero_le _,rfl,rfl⟩
  .rintro nb ⟨j,ts,aq,cq,m⟩ ob ⟨H,⟨hj,hm,hts⟩⟩;(try dsimp only at hj hm hts);intro pb ta qb ua;dsimp only at H ⊢;have htl:ts.length=j:=by rw [hts,List.length_map,List.length_take];omega
   refine seqJ λ_ va _ wa=>sZ rfl<|cnd (p:=j<rs.length) rfl (λxa=>?_) (λxa=>?_)
   .refine skip<|va<|seqJ λ_ ya _ _=>blockJ λ_ za _ _ _=>region<|qR 6 (.f (H.srQ 0 rfl) 0 (i:=j) (by omega) rfl .z) rfl rfl<|qt (v:=.agg #[.string ((el rs j).1),vN 0]) (aw (λ_=>by kernel_rfl))<|st_e<|Ebs (cs:=[.string ((el rs j).1),vN 0]) (e:=229) H (λ_=>by kernel_rfl) λ_ _ W _=>st_e<|EapQ W 3 T.sl157 rfl rfl rfl (W.lst (E:=IQ) 0 rfl ((el rs j).1,0) rfl) (by omega) rfl rfl λa61 Aa _ Ba=>qt asg<|nl<|za<|ya<|rL (.a1 (by omega) .z) rfl rfl<|ta _ ((j+1),(ts++[((el rs j).1,0)]),a61,Aa,(m+1)) _ ⟨rfl,rfl,rfl,rfl,trivial⟩ ⟨(Ba.pick [1,2,3] (by decide)),?_⟩ ?_
    ·(try dsimp only);exact ⟨by omega,by rw [List.length_append,hm];rfl,by rw [eG ‹_›,List.map_append,← hts];rfl⟩
    ·(try dsimp only);omega
   .refine exit<|wa<|ua _ _ _<|qa<|pa<|sj λ_ Ca=>?_;have hl0:LvT ds (rs.map (·.1)) ts:=by rw [hts,List.take_of_length_le (by omega)];exact LvT.start
    have hml:m=rs.length:=by rw [hm,htl];omega
    refine qt asg<|nl<|Ca<|seqJ λ_ Da Y _=>blockJ λ_ _ Z _ Ea=>ay (α:=(List Ti) × Bool) (λx=>[(6,.slice da ds.length dc),(8,.slice aq m cq),(10,vB (x.2=true))]) (λx Fa=>Hp No w0 Fa [cQ 227 eDp da ds.length dc ds,cQ 229 IQ aq m cq x.1]/\LvT ds (rs.map (·.1)) x.1/\(x.2=true\/∀ q,q<ds.length->(uQ x.1 (el ds q).2.1).getD 0+ng (el ds q)<=(uQ x.1 (el ds q).1).getD 0)) (λx=>2 * qo (rs.map (·.1)) (uQ x.1)+(if x.2=true then 1 else 0)) (ts,true) ⟨rfl,rfl,rfl,trivial⟩ ?_ ?_
    .refine ⟨(H.pick [1,2] (by decide)),?_⟩;(try dsimp only);exact ⟨hl0,.inl rfl⟩
    .rintro rb ⟨us,b⟩ sb ⟨N,⟨hl,hb⟩⟩;(try dsimp only at hl hb);intro tb Ga aa Ha;dsimp only at N ⊢;refine seqJ λ_ Ia _ Ja=>sZ rfl<|cnd (p:=b=true) rfl (λKa=>?_) (λKa=>?_)
     .refine skip<|Ia<|blockJ λ_ La ba _ _=>sj λ_ Ma=>?_;have hl0:LvT ds (rs.map (·.1)) ts:=by rw [hts,List.take_of_length_le (by omega)];exact LvT.start
      have hml:m=rs.length:=by rw [hm,htl];omega
      refine qt asg<|nl<|Ma<|sZ rfl<|blockJ λ_ _ ca _ Na=>ay (α:=Nat × (List Ti) × Bool) (λx=>[(6,.slice da ds.length dc),(8,.slice aq m cq),(10,vB (x.2.2=true)),(11,vN x.1)]) (λx Oa=>Hp No w0 Oa [cQ 227 eDp da ds.length dc ds,cQ 229 IQ aq m cq x.2.1]/\x.1<=ds.length/\LvT ds (rs.map (·.1)) x.2.1/\((x.2.2=false/\x.2.1=us/\∀ q,q<x.1->(uQ x.2.1 (el ds q).2.1).getD 0+ng (el ds q)<=(uQ x.2.1 (el ds q).1).getD 0)\/(x.2.2=true/\qo (rs.map (·.1)) (uQ x.2.1)<qo (rs.map (·.1)) (uQ us)))) (λx=>ds.length-x.1) (0,us,false) ⟨rfl,rfl,rfl,rfl,trivial⟩ ?_ ?_
      .refine ⟨(N.pick [0,1] (by decide)),?_⟩;(try dsimp only);exact ⟨Nat.zero_le _,hl,.inl ⟨rfl,rfl,λq h=>absurd h (Nat.not_lt_zero _)⟩⟩
      .rintro ub ⟨i,vs,O⟩ vb ⟨C,⟨hi,hl2,hb2⟩⟩;(try dsimp only at hi hl2 hb2);intro wb I ea Pa;dsimp only at C ⊢;have hvl:=hl2.len;refine seqJ λ_ Qa _ Ra=>sZ rfl<|cnd (p:=i<ds.length) rfl (λSa=>?_) (λSa=>?_)
       .refine skip<|Qa<|seqJ λ_ J fa _=>blockJ λ_ L ga _ _=>sj λ_ Ta=>qR 6 (.f (C.srQ 0 rfl) 0 (i:=i) (by omega) rfl .z) rfl rfl<|cl T.cf157 (IM vs aq m cq _ _ (C.srQ 1 rfl) (by rw [hl2.nm];exact hq1 _ (ak (xs:=ds) (i:=i) ‹_›))) rfl λ_ _ ⟨ih,hih,er,hsh,Xh⟩=>⟨_,er,?_⟩;have R:=C.ext Xh;have hgh:=hl2.get hnd (by omega) hsh;refine qt asg<|nl<|Ta<|sj λ_ Ua=>qR 7 (.f (R.srQ 0 rfl) 1 (i:=i) (by omega) rfl .z) rfl rfl<|cl T.cf157 (IM vs aq m cq _ _ (R.srQ 1 rfl) (by rw [hl2.nm];exact hq2 _ (ak (xs:=ds) (i:=i) ‹_›))) rfl λ_ _ ⟨ib,hib,er,hsb,Xb⟩=>⟨_,er,?_⟩;have A:=R.ext Xb;have hgb:=hl2.get hnd (by omega) hsb;have hlb:=hl2.lv.2 (el ds i).2.1;refine qR 4 (.f (A.srQ 1 rfl) 1 (i:=ib) (by omega) rfl .z) rfl rfl<|nl<|Ua<|seqJ λ_ ha _ _=>sL (.f (A.srQ 0 rfl) 2 (i:=i) (by omega) rfl .z) rfl rfl<|cndB (b:=(el ds i).2.2) rfl (λVa=>?_) (λVa=>?_)
        .refine rL (.a1 (by omega) .z) rfl rfl<|ha<|seqJ λ_ Wa Xa _=>sj λ_ Ya=>?_;have hng:ng (el ds i)=1:=if_pos ‹_›;refine qt mv<|qZ 3 rfl<|nl<|Ya<|cnd (p:=m<((el vs ib).2+1)) rfl (λZa=>?_) (λZa=>?_)
         .refine sZ rfl<|ret<|Xa<|ga<|fa<|ea _ _<|ca<|ba<|aa _ _<|Z<|Y<|leave2 (v:=.slice none 0 0) (v':=vN 15) rfl rfl rfl ?_;exact ⟨_,15,rfl,.inr (.inl ⟨G,λh=>hl2.lv.bad hq2 (ak (xs:=ds) (i:=i) ‹_›) (by omega) (hsv.2 h),rfl⟩),A.x⟩
         .refine skip<|Wa<|sL (.f (A.srQ 1 rfl) 1 (i:=ih) (by omega) rfl .z) rfl rfl<|cnd (p:=((el vs ih).2)<((el vs ib).2+1)) rfl (λbb=>?_) (λbb=>?_)
          .refine sj λ_ cb=>qR 5 (.x ((A.srQ 1 rfl).addr (by omega)) (by omega) .z) rfl rfl<|st_s<|EsoF (j:=ih) (f:=1) (v:=vN ((el vs ib).2+1)) A 1 ((el vs ih).1,((el vs ib).2+1)) T.sz3 rfl rfl rfl rfl rfl rfl rfl (by omega) λ_ db=>nl<|cb<|region<|?_;have hl0:LvT ds (rs.map (·.1)) ts:=by rw [hts,List.take_of_length_le (by omega)];exact LvT.start
           have hml:m=rs.length:=by rw [hm,htl];omega
           refine qt asg<|nl<|L<|J<|rL (.a1 (by omega) .z) rfl rfl<|I _ ((i+1),(vs.set ih ((el vs ih).1,((el vs ib).2+1))),true) _ ⟨rfl,rfl,rfl,rfl,trivial⟩ ⟨(db.pick [0,1] (by decide)),?_⟩ ?_
           ·(try dsimp only);have hu:=hl2.up hnd (ak (xs:=ds) (i:=i) ‹_›) (hq1 _ (ak (xs:=ds) (i:=i) ‹_›)) (by omega) hsh (v:=((el vs ib).2+1)) (by omega) (by omega) (by omega);refine ⟨by omega,hu.1,.inr ⟨rfl,?_⟩⟩
            rcases hb2 with ⟨_,B,_⟩ | ⟨_,B⟩
            .rw [← B];exact hu.2
            .exact Nat.lt_trans hu.2 B
           ·(try dsimp only);omega
          .refine skip<|L<|J<|rL (.a1 (by omega) .z) rfl rfl<|I _ ((i+1),vs,O) _ ⟨rfl,rfl,rfl,rfl,trivial⟩ ⟨(A.pick [0,1] (by decide)),?_⟩ ?_
           ·(try dsimp only);exact ⟨by omega,hl2,hb2.imp (λh=>⟨h.1,h.2.1,λq hq=>(Nat.lt_or_ge q i).elim (h.2.2 q) λB=>by rw [show q=i by omega];omega⟩) id⟩
           ·(try dsimp only);omega
        .refine skip<|ha<|seqJ λ_ eb fb _=>sj λ_ gb=>?_;have hng:ng (el ds i)=0:=by first | exact if_neg ‹_› | exact if_neg (ne_true_of_eq_false ‹_›)
         refine qt mv<|qZ 3 rfl<|nl<|gb<|cnd (p:=m<((el vs ib).2)) rfl (λjb=>?_) (λjb=>?_)
         .refine sZ rfl<|ret<|fb<|ga<|fa<|ea _ _<|ca<|ba<|aa _ _<|Z<|Y<|leave2 (v:=.slice none 0 0) (v':=vN 15) rfl rfl rfl ?_;exact ⟨_,15,rfl,.inr (.inl ⟨G,λh=>hl2.lv.bad hq2 (ak (xs:=ds) (i:=i) ‹_›) (by omega) (hsv.2 h),rfl⟩),A.x⟩
         .refine skip<|eb<|sL (.f (A.srQ 1 rfl) 1 (i:=ih) (by omega) rfl .z) rfl rfl<|cnd (p:=((el vs ih).2)<((el vs ib).2)) rfl (λkb=>?_) (λkb=>?_)
          .refine sj λ_ lb=>qR 5 (.x ((A.srQ 1 rfl).addr (by omega)) (by omega) .z) rfl rfl<|st_s<|EsoF (j:=ih) (f:=1) (v:=vN ((el vs ib).2)) A 1 ((el vs ih).1,(el vs ib).2) T.sz3 rfl rfl rfl rfl rfl rfl rfl (by omega) λ_ mb=>nl<|lb<|region<|?_;have hl0:LvT ds (rs.map (·.1)) ts:=by rw [hts,List.take_of_length_le (by omega)];exact LvT.start
           have hml:m=rs.length:=by rw [hm,htl];omega
           refine qt asg<|nl<|L<|J<|rL (.a1 (by omega) .z) rfl rfl<|I _ ((i+1),(vs.set ih ((el vs ih).1,(el vs ib).2)),true) _ ⟨rfl,rfl,rfl,rfl,trivial⟩ ⟨(mb.pick [0,1] (by decide)),?_⟩ ?_
           ·(try dsimp only);have hu:=hl2.up hnd (ak (xs:=ds) (i:=i) ‹_›) (hq1 _ (ak (xs:=ds) (i:=i) ‹_›)) (by omega) hsh (v:=(el vs ib).2) (by omega) (by omega) (by omega);refine ⟨by omega,hu.1,.inr ⟨rfl,?_⟩⟩
            rcases hb2 with ⟨_,B,_⟩ | ⟨_,B⟩
            .rw [← B];exact hu.2
            .exact Nat.lt_trans hu.2 B
           ·(try dsimp only);omega
          .refine skip<|L<|J<|rL (.a1 (by omega) .z) rfl rfl<|I _ ((i+1),vs,O) _ ⟨rfl,rfl,rfl,rfl,trivial⟩ ⟨(A.pick [0,1] (by decide)),?_⟩ ?_
           ·(try dsimp only);exact ⟨by omega,hl2,hb2.imp (λh=>⟨h.1,h.2.1,λq hq=>(Nat.lt_or_ge q i).elim (h.2.2 q) λB=>by rw [show q=i by omega];omega⟩) id⟩
           ·(try dsimp only);omega
       .refine exit<|Ra<|Pa _ _ _<|Na<|La<|Ga _ (vs,O) _ ⟨rfl,rfl,rfl,trivial⟩ ⟨(C.pick [0,1] (by decide)),?_⟩ ?_
        ·(try dsimp only);exact ⟨hl2,hb2.elim (λh=>.inr λq hq=>h.2.2 q (by omega)) λh=>.inl h.1⟩
        .dsimp only
         rcases hb2 with ⟨U,B,_⟩ | ⟨U,B⟩
         .rw [U,B,if_neg (by decide),if_pos ‹_›];omega
         .rw [U,if_pos rfl,if_pos ‹_›];omega
     .refine exit<|Ja<|Ha _ _ _<|Ea<|Da<|sZ rfl<|ret<|leave2 (v:=.slice aq m cq) (v':=vN 0) rfl rfl rfl ?_;exact ⟨_,0,rfl,.inr (.inr ⟨G,⟨_,(SolL.congr hds.2).1 (GN (hb.resolve_left ‹_›))⟩,rfl⟩),N.x⟩
end Go.Proofs.YtljfgmedbjlkaaaGreat
