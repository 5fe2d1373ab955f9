/- A part of the engine: steps over the model. Over any program. -/
import Derived.Test.YtljfgmedbjlkaaaGreatTQ
import Derived.Test.YtljfgmedbjlkaaaGreatQA
import Derived.Test.YtljfgmedbjlkaaaGreatV3
import Derived.Test.YtljfgmedbjlkaaaGreatSX
import Derived.Test.YtljfgmedbjlkaaaGreatQV
import Derived.Test.YtljfgmedbjlkaaaGreatProg
import Derived.Test.YtljfgmedbjlkaaaGreatQJ
namespace Go.Proofs.YtljfgmedbjlkaaaGreat
open Go.RowKit Go.Eng Go.QP
theorem T.cf195:CF Tryz.prog 195:=λ_ _=>by kernel_rfl
theorem T.cf196:CF Tryz.prog 196:=λ_ _=>by kernel_rfl
theorem T.cf163:CF Tryz.prog 163:=λ_ _=>by kernel_rfl
theorem T.cf129:CF Tryz.prog 129:=λ_ _=>by kernel_rfl
theorem T.cf101:CF Tryz.prog 101:=λ_ _=>by kernel_rfl
theorem wK (z:Tm) (w0:World) (hb:z.2.size<=9223372036854775807) :
  Calls Tryz.prog 129 #[.agg (eT.enc z).toArray] w0 λe w'=>∃ r:Bool,e= .returned (.bool r)/\(r=true↔kI z)/\Ext w0 w':=by
 refine enter Tryz.func129 rfl 11 Tryz.ntmps129 rfl<|sj λ_ B=>st_e<|Ebx (v:=.agg #[vB (z.1=true),.string z.2]) (Hp.start No w0) rfl λ_ _ A _=>qt asg<|nl<|B<|seqJ λ_ C D _=>sL (.b A 0 0 rfl .z) rfl rfl<|cnd (p:=z.1=true) rfl (λE=>?_) (λE=>?_)
 .refine sj λ_ G=>qR 2 (.b A 0 1 rfl .z) rfl rfl<|cl T.cf195 (Mq z.2 _ (by omega)) rfl λ_ _ ⟨er,rfl⟩=>⟨_,er,?_⟩;exact qt asg<|nl<|G<|ret<|D<|leave1 (v:=vB (aO z.2 false)) rfl rfl<|⟨_,rfl,by rw [decide_eq_true_iff,← kX];exact ⟨λh=>.inl ⟨by assumption,h⟩,λh=>h.elim (λh=>h.2) (λh=>absurd ‹_› h.1)⟩,A.x⟩
 .refine skip<|C<|sj λ_ H=>qR 2 (.b A 0 1 rfl .z) rfl rfl<|cl T.cf196 (yX z.2 _ (by omega)) rfl λ_ _ ⟨er,rfl⟩=>⟨_,er,?_⟩;exact qt asg<|nl<|H<|ret<|leave1 (v:=vB (z.2.size<=1024)) rfl rfl<|⟨_,rfl,by rw [decide_eq_true_iff];exact ⟨λh=>.inr ⟨by assumption,h⟩,λh=>h.elim (λh=>absurd h.1 ‹_›) (λh=>h.2)⟩,A.x⟩
theorem qO (p:ByteArray) (a:Option Addr) (c:Nat) (xs:List Tm) (w0:World) (hs:Srm eT w0.heap a xs.length c xs) (hp:p.size<=9223372036854775807) (hb:∀ i,i<xs.length->(el xs i).2.size<=9223372036854775807) :
  Calls Tryz.prog 101 #[.agg #[.string p,.slice a xs.length c]] w0 λe w'=>∃ r:Bool,e= .returned (.bool r)/\(r=true↔rD p xs)/\Ext w0 w':=by
 refine enter Tryz.func101 rfl 28 Tryz.ntmps101 rfl<|sj λ_ I=>st_e<|Ebx (v:=.agg #[.string p,.slice a xs.length c]) (Hp.start No w0) rfl λC _ A _=>qt asg<|nl<|I<|seqJ λ_ J D _=>sj λ_ E=>qR 2 (.b A 0 0 rfl .z) rfl rfl<|cl T.cf163 (mX p _ (by omega)) rfl λ_ _ ⟨er,rfl⟩=>⟨_,er,?_⟩;refine qt (aV rfl)<|st_if (p:=¬ (l9 p)) (ai rfl) (λK=>?_) (λK=>?_)
 .exact qZ 5 rfl<|nl<|E<|cndT rfl<|sZ rfl<|ret<|D<|leave1 (v:=.bool false) rfl rfl<|⟨_,rfl,⟨λh=>(by cases h),λh=>(by first | exact absurd ((bK p).1 h.1) ‹_› | (have:=h.2.1;omega))⟩,A.x⟩
 .refine qR 5 (.b A 0 1 rfl .z) rfl rfl<|nl<|E<|cnd (p:=16<xs.length) rfl (λL=>?_) (λL=>?_)
  .exact sZ rfl<|ret<|D<|leave1 (v:=.bool false) rfl rfl<|⟨_,rfl,⟨λh=>(by cases h),λh=>(by first | exact absurd ((bK p).1 h.1) ‹_› | (have:=h.2.1;omega))⟩,A.x⟩
  .refine skip<|J<|seqJ λ_ M N _=>sZ rfl<|blockJ λ_ _ O _ R=>ay (α:=Nat) (λx=>[(1,.pointer (some ⟨C,0,none⟩)),(3,vN x)]) (λx U=>Hp No w0 U [cB C 32 [.string p,.slice a xs.length c]]/\x<=xs.length/\∀ j,j<x->kI (el xs j)) (λx=>xs.length-x) (0) ⟨rfl,rfl,trivial⟩ ?_ ?_
   .refine ⟨A,?_⟩;(try dsimp only);exact ⟨Nat.zero_le _,λj h=>absurd h (Nat.not_lt_zero _)⟩
   .rintro ja i ka ⟨B,⟨hi,hg⟩⟩;(try dsimp only at hi hg);intro la V W X;refine seqJ λ_ Y _ Z=>sL (.b B 0 1 rfl .z) rfl rfl<|cnd (p:=i<xs.length) rfl (λaa=>?_) (λaa=>?_)
    .refine skip<|Y<|seqJ λ_ ba ca _=>blockJ λ_ da ea _ _=>sj λ_ fa=>qR 5 (.b B 0 1 rfl (.e (hs.ext B.x) (i:=i) (by omega) .z)) rfl rfl<|cl T.cf129 (wK (el xs i) _ (hb i (by omega))) rfl λ_ _ ⟨ga,er,G,ha⟩=>⟨_,er,?_⟩;have H:=B.ext ha;refine qt (d9 rfl)<|nl<|fa<|cnd (p:=¬ (ga=true)) rfl (λia=>?_) (λia=>?_)
     .exact sZ rfl<|ret<|ea<|ca<|W _ _<|O<|N<|leave1 (v:=.bool false) rfl rfl<|⟨_,rfl,⟨λh=>(by cases h),λh=>absurd (G.2 (h.2.2 _ (by rw [aF (by omega)];exact List.getElem_mem _))) ‹_›⟩,H.x⟩
     .refine skip<|da<|ba<|rL (.a1 (by omega) .z) rfl rfl<|V _ ((i+1)) _ ⟨rfl,rfl,trivial⟩ ⟨H,?_⟩ ?_
      ·(try dsimp only);exact ⟨by omega,λj hj=>(Nat.lt_or_ge j i).elim (hg j) (λh=>(show j=i by omega)▸G.1 (Decidable.of_not_not ‹_›))⟩
      ·(try dsimp only);omega
    .exact exit<|Z<|X _ _ _<|R<|M<|sZ rfl<|ret<|leave1 (v:=.bool true) rfl rfl<|⟨_,rfl,⟨λ_=>⟨(bK p).2 (Decidable.of_not_not ‹_›),by omega,λy hy=>(by obtain ⟨j,hj,rfl⟩:=List.getElem_of_mem hy;rw [← aF hj];exact hg j (by omega))⟩,λ_=>rfl⟩,B.x⟩
theorem oK (z:Rw) (w0:World) (hs:lY w0.heap z) (hb:lZ z.1) :
  Calls Tryz.prog 74 #[.agg (eL.enc z).toArray] w0 λe w'=>∃ r:Bool,e= .returned (.bool r)/\(r=true↔bm z.1)/\Ext w0 w':=by
 refine enter Tryz.func74 rfl 48 Tryz.ntmps74 rfl<|sj λ_ W=>st_e<|Ebx (v:=.agg (eL.enc z).toArray) (Hp.start No w0) rfl λ_ _ X _=>qt asg<|nl<|W<|sj λ_ Y=>qt (v:=.agg #[.bool false,.string ByteArray.empty]) (aw (λ_=>by kernel_rfl))<|st_e<|Eal X T.zv35 λ_ _ Z _=>st_s<|Est (v:=.agg #[.bool false,.string ByteArray.empty]) Z 0 T.sz35 rfl rfl rfl rfl rfl rfl λ_ A=>nl<|Y<|seqJ λ_ aa B _=>sL (.b A 1 0 rfl .z) rfl rfl<|blockJ λ_ ba C _ _=>seqJ λ_ U _ _=>sL (.i .z) rfl rfl<|cnd (p:=z.1.kind=1) rfl (λV=>?_) (λV=>?_)
 .refine skip<|U<|cndY (p:=z.1.kind=1) rfl (not_not_intro V)<|sj λ_ K=>qR 2 (.d A 1 1 2 rfl .z) rfl rfl<|cl T.cf101 (qO z.1.pred z.2.1 z.2.2 z.1.args _ (hs.ext A.x) (Nat.le_trans hb.1 (by decide)) (λi hi=>Nat.le_trans (hb.2.2.1 i hi) (by decide))) rfl λ_ _ ⟨ca,er,L,da⟩=>⟨_,er,?_⟩;have D:=A.ext da;refine st_if (p:=ca=true) (EB rfl) (λea=>?_) (λea=>?_)
  .refine qR 3 (.d D 1 3 2 rfl (.d D 0 0 2 rfl .z)) rfl rfl<|st_gq 3 13 rfl rfl (by decide)<|qt (gG T.eqT35 rfl rfl)<|qt (wj rfl)<|st_if (p:=(decide (z.1.left.1=true),z.1.left.2)=(false,ByteArray.empty)) (ai rfl) (λfa=>?_) (λfa=>?_)
   .exact qR 3 (.d D 1 5 2 rfl (.d D 0 0 2 rfl .z)) rfl rfl<|st_gq 9 19 rfl rfl (by decide)<|qt (gG T.eqT35 rfl rfl)<|qZ 2 rfl<|nl<|K<|ret<|C<|B<|leave1 (v:=vB ((decide (z.1.right.1=true),z.1.right.2)=(false,ByteArray.empty))) rfl rfl<|⟨_,rfl,(by rw [decide_eq_true_iff,kg];exact ⟨λh=>jO (L.1 ‹_›) (kg.1 ‹_›) h (by omega),λh=>(az h (show ¬ z.1.kind=3 by omega)).2.2.1⟩),D.x⟩
   .exact qZ 6 rfl<|nl<|K<|ret<|C<|B<|leave1 (v:=.bool false) rfl rfl<|⟨_,rfl,⟨λh=>(by cases h),λh=>(by first | exact absurd (L.2 (az h (show ¬ z.1.kind=3 by omega)).1) ‹_› | exact absurd (kg.2 (az h (show ¬ z.1.kind=3 by omega)).2.1) ‹_›)⟩,D.x⟩
  .exact qZ 12 rfl<|nl<|K<|ret<|C<|B<|leave1 (v:=.bool false) rfl rfl<|⟨_,rfl,⟨λh=>(by cases h),λh=>(by first | exact absurd (L.2 (az h (show ¬ z.1.kind=3 by omega)).1) ‹_› | exact absurd (kg.2 (az h (show ¬ z.1.kind=3 by omega)).2.1) ‹_›)⟩,D.x⟩
 .refine rL (.i .z) rfl rfl<|U<|cnd (p:=z.1.kind=2) rfl (λga=>?_) (λga=>?_)
  .refine sj λ_ M=>qR 2 (.d A 1 1 2 rfl .z) rfl rfl<|cl T.cf101 (qO z.1.pred z.2.1 z.2.2 z.1.args _ (hs.ext A.x) (Nat.le_trans hb.1 (by decide)) (λi hi=>Nat.le_trans (hb.2.2.1 i hi) (by decide))) rfl λ_ _ ⟨ha,er,N,ia⟩=>⟨_,er,?_⟩;have E:=A.ext ia;refine st_if (p:=ha=true) (EB rfl) (λja=>?_) (λja=>?_)
   .refine qR 3 (.d E 1 3 2 rfl (.d E 0 0 2 rfl .z)) rfl rfl<|st_gq 3 13 rfl rfl (by decide)<|qt (gG T.eqT35 rfl rfl)<|qt (wj rfl)<|st_if (p:=(decide (z.1.left.1=true),z.1.left.2)=(false,ByteArray.empty)) (ai rfl) (λka=>?_) (λka=>?_)
    .exact qR 3 (.d E 1 5 2 rfl (.d E 0 0 2 rfl .z)) rfl rfl<|st_gq 9 19 rfl rfl (by decide)<|qt (gG T.eqT35 rfl rfl)<|qZ 2 rfl<|nl<|M<|ret<|C<|B<|leave1 (v:=vB ((decide (z.1.right.1=true),z.1.right.2)=(false,ByteArray.empty))) rfl rfl<|⟨_,rfl,(by rw [decide_eq_true_iff,kg];exact ⟨λh=>jO (N.1 ‹_›) (kg.1 ‹_›) h (by omega),λh=>(az h (show ¬ z.1.kind=3 by omega)).2.2.1⟩),E.x⟩
    .exact qZ 6 rfl<|nl<|M<|ret<|C<|B<|leave1 (v:=.bool false) rfl rfl<|⟨_,rfl,⟨λh=>(by cases h),λh=>(by first | exact absurd (N.2 (az h (show ¬ z.1.kind=3 by omega)).1) ‹_› | exact absurd (kg.2 (az h (show ¬ z.1.kind=3 by omega)).2.1) ‹_›)⟩,E.x⟩
   .exact qZ 12 rfl<|nl<|M<|ret<|C<|B<|leave1 (v:=.bool false) rfl rfl<|⟨_,rfl,⟨λh=>(by cases h),λh=>(by first | exact absurd (N.2 (az h (show ¬ z.1.kind=3 by omega)).1) ‹_› | exact absurd (kg.2 (az h (show ¬ z.1.kind=3 by omega)).2.1) ‹_›)⟩,E.x⟩
  .refine sL (.i .z) rfl rfl<|cnd (p:=z.1.kind=3) rfl (λG=>?_) (λG=>?_)
   .refine sj λ_ I=>qR 2 (.d A 1 3 2 rfl .z) rfl rfl<|cl T.cf129 (wK z.1.left _ (Nat.le_trans hb.2.2.2.1 (by decide))) rfl λ_ _ ⟨la,er,J,ma⟩=>⟨_,er,?_⟩;have O:=A.ext ma;refine st_if (p:=la=true) (EB rfl) (λna=>?_) (λna=>?_)
    .refine qR 2 (.d O 1 5 2 rfl .z) rfl rfl<|st_gq 3 30 rfl rfl (by decide)<|cl T.cf129 (wK z.1.right _ (Nat.le_trans hb.2.2.2.2 (by decide))) rfl λ_ _ ⟨oa,er,R,pa⟩=>⟨_,er,?_⟩;have H:=O.ext pa;refine qt (wj rfl)<|st_if (p:=oa=true) (EB rfl) (λqa=>?_) (λqa=>?_)
     .refine qR 5 (.b H 1 1 rfl .z) rfl rfl<|st_if (p:=z.1.pred.toList=(ByteArray.mk #[]).toList) (ai rfl) (λra=>?_) (λra=>?_)
      .exact qR 7 (.b H 1 2 rfl .z) rfl rfl<|nl<|I<|ret<|C<|B<|leave1 (v:=vB (z.1.args.length=0)) rfl rfl<|⟨_,rfl,(by rw [decide_eq_true_iff];exact ⟨λh=>.inr ⟨G,J.1 ‹_›,R.1 ‹_›,aC ‹_›,List.eq_nil_of_length_eq_zero h⟩,λh=>(by rw [(aG h G).2.2.2];rfl)⟩),H.x⟩
      .exact qZ 7 rfl<|nl<|I<|ret<|C<|B<|leave1 (v:=.bool false) rfl rfl<|⟨_,rfl,⟨λh=>(by cases h),λh=>(by have hu:=aG h G;first | exact absurd (J.2 hu.1) ‹_› | exact absurd (R.2 hu.2.1) ‹_› | exact absurd (by rw [hu.2.2.1];rfl:z.1.pred.toList=(ByteArray.mk #[]).toList) ‹_›)⟩,H.x⟩
     .exact qZ 13 rfl<|nl<|I<|ret<|C<|B<|leave1 (v:=.bool false) rfl rfl<|⟨_,rfl,⟨λh=>(by cases h),λh=>(by have hu:=aG h G;first | exact absurd (J.2 hu.1) ‹_› | exact absurd (R.2 hu.2.1) ‹_› | exact absurd (by rw [hu.2.2.1];rfl:z.1.pred.toList=(ByteArray.mk #[]).toList) ‹_›)⟩,H.x⟩
    .exact qZ 18 rfl<|nl<|I<|ret<|C<|B<|leave1 (v:=.bool false) rfl rfl<|⟨_,rfl,⟨λh=>(by cases h),λh=>(by have hu:=aG h G;first | exact absurd (J.2 hu.1) ‹_› | exact absurd (by rw [hu.2.2.1];rfl:z.1.pred.toList=(ByteArray.mk #[]).toList) ‹_›)⟩,O.x⟩
   .exact skip<|ba<|aa<|sZ rfl<|ret<|leave1 (v:=.bool false) rfl rfl<|⟨_,rfl,⟨λh=>(by cases h),λh=>(by rcases h with ⟨h,_⟩ | ⟨h,_⟩ <;> omega)⟩,A.x⟩
theorem T.zv60:ZV Tryz.prog 60 (.agg #[.string ByteArray.empty,.slice none 0 0,.slice none 0 0]):=λ_=>by kernel_rfl
theorem T.sz60:SZ Tryz.prog 60 3:=λ_=>by kernel_rfl
theorem T.ag60:AG Tryz.prog 60 3:=λ_=>⟨by kernel_rfl,by kernel_rfl⟩
theorem T.cf74:CF Tryz.prog 74:=λ_ _=>by kernel_rfl
theorem T.cf39:CF Tryz.prog 39:=λ_ _=>by kernel_rfl
theorem T.cf53:CF Tryz.prog 53:=λ_ _=>by kernel_rfl
theorem T.cf126:CF Tryz.prog 126:=λ_ _=>by kernel_rfl
theorem T.cf70:CF Tryz.prog 70:=λ_ _=>by kernel_rfl
theorem T.cf30:CF Tryz.prog 30:=λ_ _=>by kernel_rfl
theorem MZ:rD (ByteArray.mk #[113]) []:=⟨by decide +kernel,by decide,λ_ h=>by cases h⟩
theorem pairE {x y:Tm}:(decide (x.1=true),x.2)=(decide (y.1=true),y.2)↔x=y:=by
 obtain ⟨v,s⟩:=x;obtain ⟨u,t⟩:=y;cases v <;> cases u <;> simp
theorem N7 {α:Type} [Inhabited α] {xs ys:List α} (h:xs.length=ys.length) (hj:∀ j,j<xs.length->el xs j=el ys j):xs=ys:=by
 refine List.ext_getElem h λj h1 h2=>?_;have:=hj j h1;rwa [aF h1,aF h2] at this
theorem Oz {rows:List Rw} {m:Nat} {r:Bool} (hm:0<m) (hl:rows.length=m) (h:r=true↔(m<=256/\∀ x ∈ rows.map (·.1),bm x)):r=true↔QG (rows.map (·.1)):=by
 rw [h];unfold QG;rw [List.length_map,hl];exact ⟨λ⟨a,b⟩=>⟨λe=>by have:=congrArg List.length e;rw [List.length_map,hl] at this;simp at this;omega,a,b⟩,λ⟨_,a,b⟩=>⟨a,b⟩⟩
theorem kY {xs ys:List Rw}:xs.map (·.1)=ys.map (·.1)↔xs.length=ys.length/\∀ j,j<xs.length->(el xs j).1=(el ys j).1:=by
 constructor
 .intro h;have hl:xs.length=ys.length:=by have:=congrArg List.length h;simpa using this
  refine ⟨hl,λj hj=>?_⟩;have:=congrArg (λl=>l[j]?) h;simp only [List.getElem?_map,el_get? hj,el_get? (show j<ys.length by omega),Option.map_some] at this;injection this
 .rintro ⟨h1,h2⟩;refine List.ext_getElem (by simp [h1]) λj h3 h4=>?_;simp only [List.length_map] at h3 h4;have:=h2 j h3;rw [aF h3,aF h4] at this
  simpa using this
theorem ni {z y:Qlit}:z=y↔z.kind=y.kind/\(z.pred=y.pred/\z.args=y.args)/\z.left=y.left/\z.right=y.right:=by
 obtain ⟨a,b,c,d,e⟩:=z;obtain ⟨a',b',c',d',e'⟩:=y;simp [and_assoc]
theorem BK (a:Option Addr) (m c:Nat) (w0:World) :
  Calls Tryz.prog 39 #[.slice a m c] w0 λe w'=>e= .returned (.agg #[.string (ByteArray.mk #[113]),.slice none 0 0,.slice a m c])/\Ext w0 w':=by
 refine enter Tryz.func39 rfl 6 Tryz.ntmps39 rfl<|sj λ_ B=>st_e<|Eal (Hp.start No w0) T.zv60 λC _ D _=>nl<|B<|sj λ_ E=>qt (v:=.agg #[.string (ByteArray.mk #[113]),.slice none 0 0]) (aw (λ_=>by kernel_rfl))<|qt mv<|qt (v:=.agg #[.string (ByteArray.mk #[113]),.slice none 0 0,.slice a m c]) (aw (λ_=>by kernel_rfl))<|st_s<|Est (v:=.agg #[.string (ByteArray.mk #[113]),.slice none 0 0,.slice a m c]) D 0 T.sz60 rfl rfl rfl rfl rfl rfl λ_ A=>nl<|E<|ret<|leaveC (T:=60) (b:=C) (o:=0) (cs:=[.string (ByteArray.mk #[113]),.slice none 0 0,.slice a m c]) rfl T.ag60 rfl (A.lds 0 rfl 0 [.string (ByteArray.mk #[113]),.slice none 0 0,.slice a m c] rfl) ?_;exact ⟨rfl,A.x⟩
theorem wO (a:Option Addr) (m c:Nat) (rows:List Rw) (w0:World) (hs:Lits w0.heap a m c rows) (hb:∀ i,i<m->lZ (el rows i).1) :
  Calls Tryz.prog 53 #[.agg #[.string (ByteArray.mk #[113]),.slice none 0 0,.slice a m c]] w0 λe w'=>∃ r:Bool,e= .returned (.bool r)/\(r=true↔(m<=256/\∀ x ∈ rows.map (·.1),bm x))/\Ext w0 w':=by
 have hlen:=hs.1.len;refine enter Tryz.func53 rfl 28 Tryz.ntmps53 rfl<|sj λ_ K=>st_e<|Ebx (v:=.agg #[.string (ByteArray.mk #[113]),.slice none 0 0,.slice a m c]) (Hp.start No w0) rfl λC _ D _=>qt asg<|nl<|K<|seqJ λ_ L E _=>sj λ_ G=>qR 2 (.d D 0 0 2 rfl .z) rfl rfl<|cl T.cf101 (qO (ByteArray.mk #[113]) none 0 [] _ (Src.nil _ _) (by decide) (λi hi=>absurd hi (Nat.not_lt_zero i))) rfl λ_ _ ⟨M,er,H,N⟩=>⟨_,er,?_⟩;have B:=D.ext N;refine qt (d9 rfl)<|st_if (p:=¬ (M=true)) (ai rfl) (λO=>?_) (λO=>?_)
 .exact qZ 5 rfl<|nl<|G<|cndT rfl<|sZ rfl<|ret<|E<|leave1 (v:=.bool false) rfl rfl<|⟨_,rfl,⟨λh=>(by cases h),λh=>(by first | exact absurd (H.2 MZ) ‹_› | (have:=h.1;omega))⟩,B.x⟩
 .refine qR 5 (.b B 0 2 rfl .z) rfl rfl<|nl<|G<|cnd (p:=256<m) rfl (λR=>?_) (λR=>?_)
  .exact sZ rfl<|ret<|E<|leave1 (v:=.bool false) rfl rfl<|⟨_,rfl,⟨λh=>(by cases h),λh=>(by first | exact absurd (H.2 MZ) ‹_› | (have:=h.1;omega))⟩,B.x⟩
  .refine skip<|L<|seqJ λ_ U V _=>sZ rfl<|blockJ λ_ _ W _ X=>ay (α:=Nat) (λx=>[(1,.pointer (some ⟨C,0,none⟩)),(3,vN x)]) (λx Y=>Hp No w0 Y [cB C 60 [.string (ByteArray.mk #[113]),.slice none 0 0,.slice a m c]]/\x<=m/\∀ j,j<x->bm (el rows j).1) (λx=>m-x) (0) ⟨rfl,rfl,trivial⟩ ?_ ?_
   .refine ⟨B,?_⟩;(try dsimp only);exact ⟨Nat.zero_le _,λj h=>absurd h (Nat.not_lt_zero _)⟩
   .rintro na i oa ⟨A,⟨hi,hg⟩⟩;(try dsimp only at hi hg);intro pa Z aa ba;refine seqJ λ_ ca _ da=>sL (.b A 0 2 rfl .z) rfl rfl<|cnd (p:=i<m) rfl (λea=>?_) (λea=>?_)
    .refine skip<|ca<|seqJ λ_ fa ga _=>blockJ λ_ ha ia _ _=>sj λ_ ja=>qR 5 (.b A 0 2 rfl (.e (hs.1.ext A.x) (i:=i) (by omega) .z)) rfl rfl<|cl T.cf74 (oK (el rows i) _ ((hs.2 i (by omega)).ext A.x) (hb i (by omega))) rfl λ_ _ ⟨ka,er,I,la⟩=>⟨_,er,?_⟩;have J:=A.ext la;refine qt (d9 rfl)<|nl<|ja<|cnd (p:=¬ (ka=true)) rfl (λma=>?_) (λma=>?_)
     .exact sZ rfl<|ret<|ia<|ga<|aa _ _<|W<|V<|leave1 (v:=.bool false) rfl rfl<|⟨_,rfl,⟨λh=>(by cases h),λh=>absurd (I.2 (h.2 _ (List.mem_map_of_mem (by rw [aF (by omega)];exact List.getElem_mem _)))) ‹_›⟩,J.x⟩
     .refine skip<|ha<|fa<|rL (.a1 (by omega) .z) rfl rfl<|Z _ ((i+1)) _ ⟨rfl,rfl,trivial⟩ ⟨J,?_⟩ ?_
      ·(try dsimp only);exact ⟨by omega,λj hj=>(Nat.lt_or_ge j i).elim (hg j) (λh=>(show j=i by omega)▸I.1 (Decidable.of_not_not ‹_›))⟩
      ·(try dsimp only);omega
    .exact exit<|da<|ba _ _ _<|X<|U<|sZ rfl<|ret<|leave1 (v:=.bool true) rfl rfl<|⟨_,rfl,⟨λ_=>⟨by omega,λy hy=>(by obtain ⟨z,hz,rfl⟩:=List.mem_map.1 hy;obtain ⟨j,hj,rfl⟩:=List.getElem_of_mem hz;rw [← aF hj];exact hg j (by omega))⟩,λ_=>rfl⟩,A.x⟩
theorem yY (a:Option Addr) (m c:Nat) (rows:List Rw) (w0:World) (hs:Lits w0.heap a m c rows) (hb:∀ i,i<m->lZ (el rows i).1) :
  Calls Tryz.prog 20 #[.slice a m c] w0 λe w'=>∃ r:Bool,e= .returned (.bool r)/\(r=true↔QG (rows.map (·.1)))/\Ext w0 w':=by
 have hlen:=hs.1.len;refine enter Tryz.func20 rfl 11 Tryz.ntmps20 rfl<|sZ rfl<|sj λ_ A=>qZ 3 rfl<|st_if (p:=0<m) (ai rfl) (λC=>?_) (λC=>?_)
 .refine qZ 1 rfl<|st_gq 3 6 rfl rfl (by decide)<|cl T.cf39 (BK a m c _) rfl λ_ _ ⟨er,D⟩=>⟨_,er,?_⟩;have B:=(Hp.start No w0).ext D;refine st_gq 3 6 rfl rfl (by decide)<|cl T.cf53 (wO a m c rows _ (hs.ext B.x) hb) rfl λ_ _ ⟨E,er,G,H⟩=>⟨_,er,?_⟩;have I:=B.ext H;exact qZ 2 rfl<|nl<|A<|ret<|leave1 (v:=.bool E) rfl rfl<|⟨_,rfl,(Oz (by omega) hlen G),I.x⟩
 .exact qZ 5 rfl<|nl<|A<|ret<|leave1 (v:=.bool false) rfl rfl<|⟨_,rfl,⟨λh=>(by cases h),λh=>absurd (by rw [List.eq_nil_of_length_eq_zero (show rows.length=0 by omega)];rfl) h.1⟩,(Hp.start No w0).x⟩
theorem wI (a b:Option Addr) (c d:Nat) (xs ys:List Tm) (w0:World) (hs:Srm eT w0.heap a xs.length c xs) (hs2:Srm eT w0.heap b ys.length d ys) :
  Calls Tryz.prog 126 #[.slice a xs.length c,.slice b ys.length d] w0 λe w'=>∃ r:Bool,e= .returned (.bool r)/\(r=true↔xs=ys)/\Ext w0 w':=by
 have hc:=hs.cap;refine enter Tryz.func126 rfl 26 Tryz.ntmps126 rfl<|sZ rfl<|seqJ λ_ E G _=>sZ rfl<|cnd (p:=xs.length≠ys.length) rfl (λB=>?_) (λB=>?_)
 .exact sZ rfl<|ret<|G<|leave1 (v:=.bool false) rfl rfl<|⟨_,rfl,⟨λh=>(by cases h),λh=>(by subst h;first | exact absurd rfl ‹_› | (have hz:=pairE.not.1 B;exact absurd rfl hz))⟩,(Hp.start No w0).x⟩
 .refine skip<|E<|seqJ λ_ H I _=>sZ rfl<|blockJ λ_ _ J _ K=>ay (α:=Nat) (λx=>[(0,.slice a xs.length c),(1,.slice b ys.length d),(5,vN x)]) (λx L=>Hp No w0 L []/\x<=xs.length/\∀ j,j<x->el xs j=el ys j) (λx=>xs.length-x) (0) ⟨rfl,rfl,rfl,trivial⟩ ?_ ?_
  .refine ⟨(Hp.start No w0),?_⟩;(try dsimp only);exact ⟨Nat.zero_le _,λj h=>absurd h (Nat.not_lt_zero _)⟩
  .rintro ca i da ⟨C,⟨hi,hg⟩⟩;(try dsimp only at hi hg);intro ea M N O;refine seqJ λ_ R _ U=>sZ rfl<|cnd (p:=i<xs.length) rfl (λV=>?_) (λV=>?_)
   .refine skip<|R<|seqJ λ_ W X _=>blockJ λ_ Y Z _ _=>seqJ λ_ aa _ _=>rgS [] (by kernel_rfl) λ_ ba _=>?_;have A:=C.ext ba;refine dW 8 (.e (hs.ext A.x) (i:=i) (by omega) (.e (hs2.ext A.x) (i:=i) (by omega) .z)) rfl rfl<|d_q rfl rfl (λ_=>wF T.eqT35 rfl rfl)<|d_done<|aa<|cnd (p:=¬ ((decide ((el xs i).1=true),(el xs i).2)=(decide ((el ys i).1=true),(el ys i).2))) rfl (λD=>?_) (λD=>?_)
    .exact sZ rfl<|ret<|Z<|X<|N _ _<|J<|I<|leave1 (v:=.bool false) rfl rfl<|⟨_,rfl,⟨λh=>(by cases h),λh=>(by subst h;first | exact absurd rfl ‹_› | (have hz:=pairE.not.1 D;exact absurd rfl hz))⟩,A.x⟩
    .refine skip<|Y<|W<|rL (.a1 (by omega) .z) rfl rfl<|M _ ((i+1)) _ ⟨rfl,rfl,rfl,trivial⟩ ⟨A,?_⟩ ?_
     ·(try dsimp only);exact ⟨by omega,λj hj=>(Nat.lt_or_ge j i).elim (hg j) (λh=>(show j=i by omega)▸pairE.1 (Decidable.of_not_not ‹_›))⟩
     ·(try dsimp only);omega
   .exact exit<|U<|O _ _ _<|K<|H<|sZ rfl<|ret<|leave1 (v:=.bool true) rfl rfl<|⟨_,rfl,⟨λ_=>N7 (by omega) λj hj=>hg j (by omega),λ_=>rfl⟩,C.x⟩
theorem rP (p q:ByteArray) (a b:Option Addr) (c d:Nat) (xs ys:List Tm) (w0:World) (hs:Srm eT w0.heap a xs.length c xs) (hs2:Srm eT w0.heap b ys.length d ys) :
  Calls Tryz.prog 70 #[.agg #[.string p,.slice a xs.length c],.agg #[.string q,.slice b ys.length d]] w0 λe w'=>∃ r:Bool,e= .returned (.bool r)/\(r=true↔(p=q/\xs=ys))/\Ext w0 w':=by
 refine enter Tryz.func70 rfl 17 Tryz.ntmps70 rfl<|sj λ_ D=>st_e<|Ebx (v:=.agg #[.string p,.slice a xs.length c]) (Hp.start No w0) rfl λ_ _ E _=>st_e<|Ebx (v:=.agg #[.string q,.slice b ys.length d]) E rfl λ_ _ A _=>qt asg<|nl<|D<|sj λ_ B=>qR 5 (.b A 1 0 rfl (.b A 0 0 rfl .z)) rfl rfl<|st_if (p:=p.toList=q.toList) (ai rfl) (λG=>?_) (λG=>?_)
 .refine qR 4 (.b A 1 1 rfl (.b A 0 1 rfl .z)) rfl rfl<|st_gq 5 10 rfl rfl (by decide)<|cl T.cf126 (wI a b c d xs ys _ (hs.ext A.x) (hs2.ext A.x)) rfl λ_ _ ⟨H,er,C,I⟩=>⟨_,er,?_⟩;have J:=A.ext I;exact qZ 2 rfl<|nl<|B<|ret<|leave1 (v:=.bool H) rfl rfl<|⟨_,rfl,⟨λh=>⟨aC ‹_›,C.1 h⟩,λh=>C.2 h.2⟩,J.x⟩
 .exact qZ 7 rfl<|nl<|B<|ret<|leave1 (v:=.bool false) rfl rfl<|⟨_,rfl,⟨λh=>(by cases h),λh=>absurd (congrArg ByteArray.toList h.1) ‹_›⟩,A.x⟩
theorem uj (z y:Rw) (w0:World) (hs:lY w0.heap z) (hs2:lY w0.heap y) :
  Calls Tryz.prog 30 #[.agg (eL.enc z).toArray,.agg (eL.enc y).toArray] w0 λe w'=>∃ r:Bool,e= .returned (.bool r)/\(r=true↔z.1=y.1)/\Ext w0 w':=by
 refine enter Tryz.func30 rfl 31 Tryz.ntmps30 rfl<|sj λ_ E=>st_e<|Ebx (v:=.agg (eL.enc z).toArray) (Hp.start No w0) rfl λ_ _ G _=>st_e<|Ebx (v:=.agg (eL.enc y).toArray) G rfl λ_ _ A _=>qt asg<|nl<|E<|sj λ_ C=>qR 5 (.b A 1 0 rfl (.b A 0 0 rfl (.i .z))) rfl rfl<|st_if (p:=z.1.kind=y.1.kind) (ai rfl) (λH=>?_) (λH=>?_)
 .refine qR 4 (.d A 1 1 2 rfl (.d A 0 1 2 rfl .z)) rfl rfl<|st_gq 5 10 rfl rfl (by decide)<|cl T.cf70 (rP z.1.pred y.1.pred z.2.1 y.2.1 z.2.2 y.2.2 z.1.args y.1.args _ (hs.ext A.x) (hs2.ext A.x)) rfl λ_ _ ⟨I,er,D,J⟩=>⟨_,er,?_⟩;have B:=A.ext J;refine qt (wj rfl)<|st_if (p:=I=true) (EB rfl) (λK=>?_) (λK=>?_)
  .refine qR 4 (.d B 1 3 2 rfl (.d B 0 3 2 rfl .z)) rfl rfl<|st_gq 12 17 rfl rfl (by decide)<|qt (gG T.eqT35 rfl rfl)<|qt (wj rfl)<|st_if (p:=(decide (z.1.left.1=true),z.1.left.2)=(decide (y.1.left.1=true),y.1.left.2)) (ai rfl) (λL=>?_) (λL=>?_)
   .exact qR 4 (.d B 1 5 2 rfl (.d B 0 5 2 rfl .z)) rfl rfl<|st_gq 19 24 rfl rfl (by decide)<|qt (gG T.eqT35 rfl rfl)<|qZ 2 rfl<|nl<|C<|ret<|leave1 (v:=vB ((decide (z.1.right.1=true),z.1.right.2)=(decide (y.1.right.1=true),y.1.right.2))) rfl rfl<|⟨_,rfl,(by rw [decide_eq_true_iff,pairE];exact ⟨λh=>ni.2 ⟨by assumption,D.1 ‹_›,pairE.1 ‹_›,h⟩,λh=>(ni.1 h).2.2.2⟩),B.x⟩
   .exact qZ 7 rfl<|nl<|C<|ret<|leave1 (v:=.bool false) rfl rfl<|⟨_,rfl,⟨λh=>(by cases h),λh=>(by have hi:=ni.1 h;first | exact absurd hi.1 ‹_› | exact absurd (D.2 hi.2.1) ‹_› | exact absurd (pairE.2 hi.2.2.1) ‹_›)⟩,B.x⟩
  .exact qZ 14 rfl<|nl<|C<|ret<|leave1 (v:=.bool false) rfl rfl<|⟨_,rfl,⟨λh=>(by cases h),λh=>(by have hi:=ni.1 h;first | exact absurd hi.1 ‹_› | exact absurd (D.2 hi.2.1) ‹_› | exact absurd (pairE.2 hi.2.2.1) ‹_›)⟩,B.x⟩
 .exact qZ 21 rfl<|nl<|C<|ret<|leave1 (v:=.bool false) rfl rfl<|⟨_,rfl,⟨λh=>(by cases h),λh=>(by have hi:=ni.1 h;first | exact absurd hi.1 ‹_› | exact absurd (pairE.2 hi.2.2.1) ‹_›)⟩,A.x⟩
theorem DU (a b:Option Addr) (m c n d:Nat) (rows qs:List Rw) (w0:World) (hs:Lits w0.heap a m c rows) (hs2:Lits w0.heap b n d qs) :
  Calls Tryz.prog 9 #[.slice a m c,.slice b n d] w0 λe w'=>∃ r:Bool,e= .returned (.bool r)/\(r=true↔rows.map (·.1)=qs.map (·.1))/\Ext w0 w':=by
 have hlen:=hs.1.len;have hlen2:=hs2.1.len;have hc:=hs.1.cap;refine enter Tryz.func9 rfl 29 Tryz.ntmps9 rfl<|sZ rfl<|seqJ λ_ H I _=>sZ rfl<|cnd (p:=m≠n) rfl (λJ=>?_) (λJ=>?_)
 .exact sZ rfl<|ret<|I<|leave1 (v:=.bool false) rfl rfl<|⟨_,rfl,⟨λh=>(by cases h),λh=>(by have:=(kY.1 h).1;omega)⟩,(Hp.start No w0).x⟩
 .refine skip<|H<|seqJ λ_ K L _=>sZ rfl<|blockJ λ_ _ M _ N=>ay (α:=Nat) (λx=>[(0,.slice a m c),(1,.slice b n d),(5,vN x)]) (λx O=>Hp No w0 O []/\x<=m/\∀ j,j<x->(el rows j).1=(el qs j).1) (λx=>m-x) (0) ⟨rfl,rfl,rfl,trivial⟩ ?_ ?_
  .refine ⟨(Hp.start No w0),?_⟩;(try dsimp only);exact ⟨Nat.zero_le _,λj h=>absurd h (Nat.not_lt_zero _)⟩
  .rintro ja i ka ⟨B,⟨hi,hg⟩⟩;(try dsimp only at hi hg);intro la R U V;refine seqJ λ_ W _ X=>sZ rfl<|cnd (p:=i<m) rfl (λY=>?_) (λY=>?_)
   .refine skip<|W<|seqJ λ_ Z aa _=>blockJ λ_ ba ca _ _=>seqJ λ_ da _ _=>rgS [8] (by kernel_rfl) λ_ ea C=>?_;have A:=B.ext ea;refine dW 8 (.e (hs.1.ext A.x) (i:=i) (by omega) (.e (hs2.1.ext A.x) (i:=i) (by omega) .z)) rfl rfl<|d_e (by decide)<|d_c' rfl rfl (aT _ T.cf30 rfl rfl) (uj (el rows i) (el qs i) _ ((hs.2 i (by omega)).ext A.x) ((hs2.2 i (by omega)).ext A.x)) λ_ _ ⟨fa,er,D,E⟩=>⟨_,er,?_⟩;have G:=A.ext E;have ga:=C.trans (E.mono C.size);refine ⟨λ_=>ga,?_⟩;refine d_q rfl rfl (λ_=>asg)<|d_done<|da<|sj λ_ ha=>qt (EB rfl)<|qt (aV rfl)<|nl<|ha<|cnd (p:=¬ (fa=true)) rfl (λia=>?_) (λia=>?_)
    .exact sZ rfl<|ret<|ca<|aa<|U _ _<|M<|L<|leave1 (v:=.bool false) rfl rfl<|⟨_,rfl,⟨λh=>(by cases h),λh=>absurd (D.2 ((kY.1 h).2 i (by omega))) ‹_›⟩,G.x⟩
    .refine skip<|ba<|Z<|rL (.a1 (by omega) .z) rfl rfl<|R _ ((i+1)) _ ⟨rfl,rfl,rfl,trivial⟩ ⟨G,?_⟩ ?_
     ·(try dsimp only);exact ⟨by omega,λj hj=>(Nat.lt_or_ge j i).elim (hg j) (λh=>(show j=i by omega)▸D.1 (by first | assumption | exact Decidable.of_not_not ‹_›))⟩
     ·(try dsimp only);omega
   .exact exit<|X<|V _ _ _<|N<|K<|sZ rfl<|ret<|leave1 (v:=.bool true) rfl rfl<|⟨_,rfl,⟨λ_=>kY.2 ⟨by omega,λj hj=>hg j (by omega)⟩,λ_=>rfl⟩,B.x⟩
end Go.Proofs.YtljfgmedbjlkaaaGreat
