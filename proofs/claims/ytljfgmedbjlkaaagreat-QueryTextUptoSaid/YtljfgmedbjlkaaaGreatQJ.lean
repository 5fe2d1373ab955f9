/- A part of the engine: steps over the model. Over any program. -/
import Derived.Test.YtljfgmedbjlkaaaGreatTQ
import Derived.Test.YtljfgmedbjlkaaaGreatQA
import Derived.Test.YtljfgmedbjlkaaaGreatV3
import Derived.Test.YtljfgmedbjlkaaaGreatSX
import Derived.Test.YtljfgmedbjlkaaaGreatQV
import Derived.Test.YtljfgmedbjlkaaaGreatProg
namespace Go.Proofs.YtljfgmedbjlkaaaGreat
open Go.RowKit Go.Eng Go.QP
theorem T.cf71:CF Tryz.prog 71:=λ_ _=>by kernel_rfl
theorem Qp {x y:Tm} (h1:x.2.size<=1048576) (h2:y.2.size<=1048576):∀ i,i<2->(el [x,y] i).2.size<=68719476736:=λi hi=>by
 match i,hi with
 | 0,_=>exact Nat.le_trans h1 (by decide)
 | 1,_=>exact Nat.le_trans h2 (by decide)
theorem uy {ts:List Tm} {a:Option Addr} {m c:Nat} {sep:ByteArray} {w0:World} (h:Calls Tryz.prog 71 #[.slice a m c,.string sep,.func (.func 57) #[] #[]] w0 λe w'=>(∃ os t,e= .returned (.tuple #[.string t,.bool true])/\OutR ts m os/\bl t=(bl sep).intercalate (os.map bl)/\Ext w0 w')\/((∃ i,i<m/\¬ yF (el ts i).1 (el ts i).2)/\e= .returned (.tuple #[.string (ByteArray.mk #[]),.bool false])/\Ext w0 w')) (hm:ts.length=m:=by rfl) :
  Calls Tryz.prog 71 #[.slice a m c,.string sep,.func (.func 57) #[] #[]] w0 λe w'=>∃ t r,e= .returned (.tuple #[.string t,.bool r])/\((r=true/\(∀ y ∈ ts,kI y)/\bl t=fD (bl sep) (ts.map eF))\/(r=false/\¬ ∀ y ∈ ts,kI y))/\Ext w0 w':=
 h.mono λe w' h=>h.elim (λ⟨os,t,he,ho,ht,x⟩=>⟨t,true,he,.inl ⟨rfl,(ho.good hm).1,by rw [ht,(ho.good hm).2,jN]⟩,x⟩) λ⟨⟨i,hi,hn⟩,he,x⟩=>⟨_,false,he,.inr ⟨rfl,λh=>hn (h (el ts i) (by rw [aF (by omega)];exact List.getElem_mem _))⟩,x⟩
theorem Fj {p t:ByteArray} {xs:List Tm} (h:0<xs.length) (ht:bl t=fD (bl (ByteArray.mk #[44,32])) (xs.map eF)):bl (p++ByteArray.mk #[40]++t++ByteArray.mk #[41])=iM p xs:=by
 unfold iM;rw [if_neg (λe=>by rw [e] at h;cases h),ef,ef,ef,ht];rfl
theorem Ez {t:ByteArray} {xs:List Tm} {r:Bool} (hl:xs.length<=16) (h:r=true/\(∀ y ∈ xs,kI y)/\bl t=fD (bl (ByteArray.mk #[44,32])) (xs.map eF)):t.size<=100000:=by
 have hj:=u7 (bl (ByteArray.mk #[44,32])) 4098 (xs.map eF) (λx hx=>by obtain ⟨y,hy,rfl⟩:=List.mem_map.1 hx;exact cU (h.2.1 y hy));rw [List.length_map] at hj;have e:(bl (ByteArray.mk #[44,32])).length=2:=rfl;have:xs.length * (4098+2)<=16 * 4100:=Nat.mul_le_mul hl (Nat.le_refl _);rw [e] at hj;rw [← bN,h.2.2];omega
theorem IC (p:ByteArray) (a:Option Addr) (c:Nat) (xs:List Tm) (w0:World) (hs:Srm eT w0.heap a xs.length c xs) (hp:p.size<=1048576) (hl:xs.length<=1048576) (hb:∀ i,i<xs.length->(el xs i).2.size<=68719476736) :
  Calls Tryz.prog 72 #[.agg #[.string p,.slice a xs.length c]] w0 λe w'=>∃ (t:ByteArray) (k:Nat),e= .returned (.tuple #[.string t,vN k])/\((k=0/\rD p xs/\bl t=iM p xs)\/(k=2/\¬ rD p xs))/\Ext w0 w':=by
 refine enter Tryz.func72 rfl 38 Tryz.ntmps72 rfl<|sj λ_ H=>st_e<|Ebx (v:=.agg #[.string p,.slice a xs.length c]) (Hp.start No w0) rfl λ_ _ C _=>qZ 2 rfl<|nl<|H<|sj λ_ I=>qR 2 (.b C 0 1 rfl .z) rfl rfl<|st_c (aT _ T.cf71 rfl rfl) (uy (zG xs _ xs.length _ (ByteArray.mk #[44,32]) _ (hs.ext C.x) (by omega) (by decide) hb)) λ_ _ ⟨G,J,er,B,K⟩=>⟨_,er,?_⟩;have A:=C.ext K;refine qZ 5 rfl<|nl<|I<|seqJ λ_ L D _=>sj λ_ E=>qt (EB rfl)<|qt (aV rfl)<|st_if (p:=¬ (J=true)) (ai rfl) (λM=>?_) (λM=>?_)
 .refine qZ 11 rfl<|nl<|E<|cndT rfl<|sZ rfl<|ret<|D<|leave2 (v:=.string (ByteArray.mk #[])) (v':=vN 2) rfl rfl rfl ?_;exact ⟨_,2,rfl,.inr ⟨rfl,λhg=>by first | exact absurd hg.1 ‹_› | (have:=hg.2.1;omega) | exact (B.resolve_left (λh=>by have:=h.1.symm.trans (Bool.eq_false_iff.2 ‹_›);cases this)).2 hg.2.2⟩,A.x⟩
 .refine qR 2 (.b A 0 0 rfl .z) rfl rfl<|st_gq 2 14 rfl rfl (by decide)<|cl T.cf127 (Cy p _ (by omega)) rfl λ_ _ ⟨er,rfl⟩=>⟨_,er,?_⟩;refine st_gq 2 14 rfl rfl (by decide)<|qt (aV rfl)<|qt (LV rfl)<|st_if (p:=¬ (kind p=1)) (ai rfl) (λN=>?_) (λN=>?_)
  .refine qZ 5 rfl<|nl<|E<|cndT rfl<|sZ rfl<|ret<|D<|leave2 (v:=.string (ByteArray.mk #[])) (v':=vN 2) rfl rfl rfl ?_;exact ⟨_,2,rfl,.inr ⟨rfl,λhg=>by first | exact absurd hg.1 ‹_› | (have:=hg.2.1;omega) | exact (B.resolve_left (λh=>by have:=h.1.symm.trans (Bool.eq_false_iff.2 ‹_›);cases this)).2 hg.2.2⟩,A.x⟩
  .refine qR 5 (.b A 0 1 rfl .z) rfl rfl<|nl<|E<|cnd (p:=16<xs.length) rfl (λO=>?_) (λO=>?_)
   .refine sZ rfl<|ret<|D<|leave2 (v:=.string (ByteArray.mk #[])) (v':=vN 2) rfl rfl rfl ?_;exact ⟨_,2,rfl,.inr ⟨rfl,λhg=>by first | exact absurd hg.1 ‹_› | (have:=hg.2.1;omega) | exact (B.resolve_left (λh=>by have:=h.1.symm.trans (Bool.eq_false_iff.2 ‹_›);cases this)).2 hg.2.2⟩,A.x⟩
   .refine skip<|L<|seqJ λ_ R U _=>sL (.b A 0 1 rfl .z) rfl rfl<|cnd (p:=xs.length=0) rfl (λV=>?_) (λV=>?_)
    .refine sL (.b A 0 0 rfl .z) rfl rfl<|ret<|U<|leave2 (v:=.string p) (v':=vN 0) rfl rfl rfl ?_;have hr:=B.resolve_right (λh=>by have:=h.1.symm.trans (Decidable.of_not_not ‹_›);cases this);have W:xs=[]:=List.eq_nil_of_length_eq_zero ‹_›;exact ⟨_,0,rfl,.inl ⟨rfl,⟨Decidable.of_not_not ‹_›,by omega,hr.2.1⟩,by unfold iM;rw [if_pos W]⟩,A.x⟩
    .refine skip<|R<|sj λ_ X=>qR 2 (.b A 0 0 rfl .z) rfl rfl<|?_;have hts:G.size<=100000:=Ez (by omega) (B.resolve_right (λh=>by have:=h.1.symm.trans (Decidable.of_not_not ‹_›);cases this));refine qt (bM rfl rfl (by have e1:(ByteArray.mk #[40]).size=1:=rfl;have e2:(ByteArray.mk #[41]).size=1:=rfl;(try simp only [ByteArray.size_append]);omega))<|qt mv<|qt (bM rfl rfl (by have e1:(ByteArray.mk #[40]).size=1:=rfl;have e2:(ByteArray.mk #[41]).size=1:=rfl;(try simp only [ByteArray.size_append]);omega))<|qt (bM rfl rfl (by have e1:(ByteArray.mk #[40]).size=1:=rfl;have e2:(ByteArray.mk #[41]).size=1:=rfl;(try simp only [ByteArray.size_append]);omega))<|qZ 2 rfl<|nl<|X<|ret<|leave2 (v:=.string (((p++(ByteArray.mk #[40]))++G)++(ByteArray.mk #[41]))) (v':=vN 0) rfl rfl rfl ?_;have hr:=B.resolve_right (λh=>by have:=h.1.symm.trans (Decidable.of_not_not ‹_›);cases this);exact ⟨_,0,rfl,.inl ⟨rfl,⟨Decidable.of_not_not ‹_›,by omega,hr.2.1⟩,Fj (by omega) hr.2.2⟩,A.x⟩
theorem T.eqT35:EQT Tryz.prog 35:=⟨⟨_,_,Tryz.underlying35,rfl,rfl,rfl,rfl,Tryz.underlying4,Tryz.underlying9⟩,by kernel_rfl,by kernel_rfl⟩
theorem T.ag32:AG Tryz.prog 32 2:=λ_=>⟨by kernel_rfl,by kernel_rfl⟩
theorem T.cf72:CF Tryz.prog 72:=λ_ _=>by kernel_rfl
theorem T.zv37:ZV Tryz.prog 37 (.agg #[vN 0,.string ByteArray.empty,.slice none 0 0,.bool false,.string ByteArray.empty,.bool false,.string ByteArray.empty]):=λ_=>by kernel_rfl
theorem T.cf33:CF Tryz.prog 33:=λ_ _=>by kernel_rfl
theorem kg {x:Tm}:(decide (x.1=true),x.2)=(false,ByteArray.empty)↔x=nA:=by
 obtain ⟨v,s⟩:=x;cases v <;> simp [nA]
theorem RG {x:Rw} (h:¬ ((decide (x.1.left.1=true),x.1.left.2)=(false,ByteArray.empty))):(true=true↔¬ (x.1.left=nA/\x.1.right=nA)):=⟨λ_ h2=>h (kg.2 h2.1),λ_=>rfl⟩
theorem Sq {x:Rw} (h:¬ ¬ ((decide (x.1.left.1=true),x.1.left.2)=(false,ByteArray.empty))):(decide (¬ ((decide (x.1.right.1=true),x.1.right.2)=(false,ByteArray.empty)))=true↔¬ (x.1.left=nA/\x.1.right=nA)):=by
 rw [decide_eq_true_iff,kg];exact ⟨λh1 h2=>h1 h2.2,λh1 h2=>h1 ⟨kg.1 (Decidable.of_not_not h),h2⟩⟩
theorem LM {x:Qlit} (h:bm x) (hk:x.kind=3):∀ y ∈ [x.left,x.right],kI y:=by
 obtain ⟨h1,h2,_⟩:=aG h hk;intro y hy
 rcases List.mem_cons.1 hy with rfl | hy
 .exact h1
 .rcases List.mem_cons.1 hy with rfl | hy
  .exact h2
  .cases hy
theorem Sy {x:Qlit} {t:ByteArray} {r:Bool} (hk:x.kind=3) (hp:x.pred=ByteArray.mk #[]) (ha:¬ 0<x.args.length) (h:r=true/\(∀ y ∈ [x.left,x.right],kI y)/\bl t=fD (bl (ByteArray.mk #[32,33,61,32])) ([x.left,x.right].map eF)):bm x/\bl t=iE x:=by
 refine ⟨.inr ⟨hk,h.2.1 _ (List.mem_cons_self ..),h.2.1 _ (List.mem_cons_of_mem _ (List.mem_cons_self ..)),hp,List.eq_nil_of_length_eq_zero (by omega)⟩,?_⟩;unfold iE;rw [if_pos hk,h.2.2];rfl
theorem OV {x:Qlit} {t:ByteArray} {k:Nat} (hk:x.kind=1) (h0:x.left=nA/\x.right=nA) (h:k=0/\rD x.pred x.args/\bl t=iM x.pred x.args):bm x/\bl (ByteArray.mk #[]++t)=iE x:=by
 refine ⟨jO h.2.1 h0.1 h0.2 (.inl hk),?_⟩;unfold iE;rw [if_neg (by omega),if_neg (by omega),ef,h.2.2];rfl
theorem OJ {x:Qlit} {t:ByteArray} {k:Nat} (hk:x.kind=2) (h0:x.left=nA/\x.right=nA) (h:k=0/\rD x.pred x.args/\bl t=iM x.pred x.args):bm x/\bl (ByteArray.mk #[110,111,116,32]++t)=iE x:=by
 refine ⟨jO h.2.1 h0.1 h0.2 (.inr hk),?_⟩;unfold iE;rw [if_neg (by omega),if_pos hk,ef,h.2.2];rfl
theorem Dm {p t:ByteArray} {xs:List Tm} {k:Nat} (h:k=0/\rD p xs/\bl t=iM p xs):t.size<=100000:=by
 have:=oZ h.2.1;rw [← bN,h.2.2];omega
theorem EQ (z:Rw) (w0:World) (hs:lY w0.heap z) (hb:lZ z.1) :
  Calls Tryz.prog 33 #[.agg (eL.enc z).toArray] w0 λe w'=>∃ (t:ByteArray) (k:Nat),e= .returned (.tuple #[.string t,vN k])/\((k=0/\bm z.1/\bl t=iE z.1)\/(k=2/\¬ bm z.1))/\Ext w0 w':=by
 refine enter Tryz.func33 rfl 65 Tryz.ntmps33 rfl<|sj λ_ ra=>st_e<|Ebx (v:=.agg (eL.enc z).toArray) (Hp.start No w0) rfl λY _ E _=>qZ 2 rfl<|nl<|ra<|seqLK (n:=65) (ds:=[]) (α:=Bool) (λx=>[(1,.pointer (some ⟨Y,0,none⟩)),(4,.bool x)]) (λx sa=>Hp No w0 sa [cB Y 37 (eL.enc z)]/\(x=true↔¬ (z.1.left=nA/\z.1.right=nA))) ?_ ?_
 .intro ib Z jb kb;refine region<|qR 2 (.d E 0 3 2 rfl .z) rfl rfl<|qt (v:=.agg #[.bool false,.string ByteArray.empty]) (aw (λ_=>by kernel_rfl))<|qt (wF T.eqT35 rfl rfl)<|st_if (p:=¬ ((decide (z.1.left.1=true),z.1.left.2)=(false,ByteArray.empty))) (ai rfl) (λL=>?_) (λL=>?_)
  .refine qZ 6 rfl<|nl<|Z _ (true) _ ⟨rfl,rfl,trivial⟩ ⟨E,?_⟩;(try dsimp only);exact RG L
  .refine qR 2 (.d E 0 5 2 rfl .z) rfl rfl<|st_gq 4 14 rfl rfl (by decide)<|qt (v:=.agg #[.bool false,.string ByteArray.empty]) (aw (λ_=>by kernel_rfl))<|st_gq 4 14 rfl rfl (by decide)<|qt (wF T.eqT35 rfl rfl)<|qZ 2 rfl<|nl<|Z _ ((decide (¬ ((decide (z.1.right.1=true),z.1.right.2)=(false,ByteArray.empty))))) _ ⟨rfl,rfl,trivial⟩ ⟨E,?_⟩;(try dsimp only);exact Sq L
 .rintro lb tb mb ⟨B,htb⟩;(try dsimp only at B htb ⊢);refine sZ rfl<|seqJ λ_ ta C _=>sL (.b B 0 0 rfl .z) rfl rfl<|blockJ λ_ _ D _ ua=>seqJ λ_ aa G va=>blockJ λ_ wa H xa ya=>seqJ λ_ za I ba=>blockJ λ_ _ J ca Aa=>seqJ λ_ Ba _ M=>blockJ λ_ _ _ N Ca=>seqJ λ_ Da _ O=>seqJ λ_ Ea _ Fa=>sL (.i .z) rfl rfl<|cnd (p:=z.1.kind=3) rfl (λA=>?_) (λA=>?_)
  .refine exit<|Fa<|O<|Ca<|Ba<|seqJ λ_ _ K _=>seqJ λ_ Ga da _=>sj λ_ ea=>qR 4 (.b B 0 1 rfl .z) rfl rfl<|st_if (p:=z.1.pred.toList≠(ByteArray.mk #[]).toList) (ai rfl) (λfa=>?_) (λfa=>?_)
   .refine qZ 6 rfl<|nl<|ea<|cndT rfl<|sZ rfl<|ret<|da<|K<|J<|I<|H<|G<|D<|C<|leave2 (v:=.string (ByteArray.mk #[])) (v':=vN 2) rfl rfl rfl ?_;exact ⟨_,2,rfl,.inr ⟨rfl,λhg=>fa (by rw [(aG hg A).2.2.1];rfl)⟩,B.x⟩
   .refine qR 6 (.b B 0 2 rfl .z) rfl rfl<|nl<|ea<|cnd (p:=0<z.1.args.length) rfl (λR=>?_) (λR=>?_)
    .refine sZ rfl<|ret<|da<|K<|J<|I<|H<|G<|D<|C<|leave2 (v:=.string (ByteArray.mk #[])) (v':=vN 2) rfl rfl rfl ?_;exact ⟨_,2,rfl,.inr ⟨rfl,λhg=>by have Ha:=(aG hg A).2.2.2;rw [Ha] at R;cases R⟩,B.x⟩
    .refine skip<|Ga<|sj λ_ Ia=>qR 4 (.d B 0 3 2 rfl (.d B 0 5 2 rfl .z)) rfl rfl<|st_e<|Ebs (cs:=[vB (z.1.left.1=true),.string z.1.left.2,vB (z.1.right.1=true),.string z.1.right.2]) (e:=35) B (λ_=>by kernel_rfl) λ_ _ ga _=>st_c (aT _ T.cf71 rfl rfl) (uy (zG [z.1.left,z.1.right] _ 2 _ (ByteArray.mk #[32,33,61,32]) _ ((ga.toQ eT 0 [z.1.left,z.1.right] rfl rfl (Nat.le_of_ble_eq_true rfl)).srQ 0 rfl) (by omega) (by decide) (Qp hb.2.2.2.1 hb.2.2.2.2))) λ_ _ ⟨Ja,Ka,er,ha,La⟩=>⟨_,er,?_⟩;have ia:=ga.ext La;refine qZ 5 rfl<|nl<|Ia<|seqJ λ_ Ma Na _=>sj λ_ Oa=>qt (EB rfl)<|qt (aV rfl)<|nl<|Oa<|cnd (p:=¬ (Ka=true)) rfl (λPa=>?_) (λPa=>?_)
     .refine sZ rfl<|ret<|Na<|K<|J<|I<|H<|G<|D<|C<|leave2 (v:=.string (ByteArray.mk #[])) (v':=vN 2) rfl rfl rfl ?_;exact ⟨_,2,rfl,.inr ⟨rfl,λhg=>(ha.resolve_left (λh=>by have:=h.1.symm.trans (Bool.eq_false_iff.2 ‹_›);cases this)).2 (LM hg A)⟩,ia.x⟩
     .refine skip<|Ma<|sZ rfl<|ret<|K<|J<|I<|H<|G<|D<|C<|leave2 (v:=.string Ja) (v':=vN 0) rfl rfl rfl ?_;have hr:=ha.resolve_right (λh=>by have:=h.1.symm.trans (Decidable.of_not_not ‹_›);cases this);exact ⟨_,0,rfl,.inl ⟨rfl,Sy A (aC (Decidable.of_not_not ‹_›)) (by omega) hr⟩,ia.x⟩
  .refine skip<|Ea<|seqJ λ_ Qa _ Ra=>sL (.i .z) rfl rfl<|cnd (p:=z.1.kind=2) rfl (λja=>?_) (λja=>?_)
   .refine exit<|Ra<|O<|N rfl<|M<|Aa<|za<|rZ rfl<|wa<|aa<|seqJ λ_ _ U _=>sj λ_ Sa=>qR 2 (.d B 0 1 2 rfl .z) rfl rfl<|cl T.cf72 (IC z.1.pred z.2.1 z.2.2 z.1.args _ (hs.ext B.x) hb.1 hb.2.1 (λi hi=>Nat.le_trans (hb.2.2.1 i hi) (by decide))) rfl λ_ _ ⟨ka,Ta,er,ha105,Ua⟩=>⟨_,er,?_⟩;have V:=B.ext Ua;refine qZ 5 rfl<|nl<|Sa<|seqJ λ_ Va la _=>sj λ_ ma=>qZ 2 rfl<|st_if (p:=Ta≠0) (ai rfl) (λWa=>?_) (λWa=>?_)
    .refine qZ 2 rfl<|nl<|ma<|cndT rfl<|sZ rfl<|ret<|la<|U<|D<|C<|leave2 (v:=.string (ByteArray.mk #[])) (v':=vN 2) rfl rfl rfl ?_;exact ⟨_,2,rfl,.inr ⟨rfl,λhg=>by first | exact absurd ⟨(az hg A).2.1,(az hg A).2.2.1⟩ (htb.1 ‹_›) | exact (ha105.resolve_left (λh=>by have:=h.1;omega)).2 (az hg A).1⟩,V.x⟩
    .refine st_gq 2 59 rfl rfl (by decide)<|qt (EB rfl)<|qt (LV rfl)<|nl<|ma<|cnd (p:=tb=true) rfl (λXa=>?_) (λXa=>?_)
     .refine sZ rfl<|ret<|la<|U<|D<|C<|leave2 (v:=.string (ByteArray.mk #[])) (v':=vN 2) rfl rfl rfl ?_;exact ⟨_,2,rfl,.inr ⟨rfl,λhg=>by first | exact absurd ⟨(az hg A).2.1,(az hg A).2.2.1⟩ (htb.1 ‹_›) | exact (ha105.resolve_left (λh=>by have:=h.1;omega)).2 (az hg A).1⟩,V.x⟩
     .refine skip<|Va<|sj λ_ Ya=>qt mv<|qt mv<|?_;have hts:ka.size<=100000:=Dm (ha105.resolve_right (λh=>by have:=h.1;omega));refine qt (bM rfl rfl (by have e1:(ByteArray.mk #[110,111,116,32]).size=4:=rfl;have e2:(ByteArray.mk #[]).size=0:=rfl;omega))<|qZ 2 rfl<|nl<|Ya<|ret<|U<|D<|C<|leave2 (v:=.string ((ByteArray.mk #[110,111,116,32])++ka)) (v':=vN 0) rfl rfl rfl ?_;have hr:=ha105.resolve_right (λh=>by have:=h.1;omega);have ht0:=Decidable.of_not_not (λh=>absurd (htb.2 h) ‹_›);exact ⟨_,0,rfl,.inl ⟨rfl,OJ ja ht0 hr⟩,V.x⟩
   .refine skip<|Qa<|sL (.i .z) rfl rfl<|cnd (p:=z.1.kind=1) rfl (λna=>?_) (λna=>?_)
    .refine exit<|O<|N rfl<|M<|ca rfl<|ba<|ya<|aa<|seqJ λ_ _ W _=>sj λ_ Za=>qR 2 (.d B 0 1 2 rfl .z) rfl rfl<|cl T.cf72 (IC z.1.pred z.2.1 z.2.2 z.1.args _ (hs.ext B.x) hb.1 hb.2.1 (λi hi=>Nat.le_trans (hb.2.2.1 i hi) (by decide))) rfl λ_ _ ⟨oa,bb,er,ha128,cb⟩=>⟨_,er,?_⟩;have X:=B.ext cb;refine qZ 5 rfl<|nl<|Za<|seqJ λ_ db pa _=>sj λ_ qa=>qZ 2 rfl<|st_if (p:=bb≠0) (ai rfl) (λeb=>?_) (λeb=>?_)
     .refine qZ 2 rfl<|nl<|qa<|cndT rfl<|sZ rfl<|ret<|pa<|W<|D<|C<|leave2 (v:=.string (ByteArray.mk #[])) (v':=vN 2) rfl rfl rfl ?_;exact ⟨_,2,rfl,.inr ⟨rfl,λhg=>by first | exact absurd ⟨(az hg A).2.1,(az hg A).2.2.1⟩ (htb.1 ‹_›) | exact (ha128.resolve_left (λh=>by have:=h.1;omega)).2 (az hg A).1⟩,X.x⟩
     .refine st_gq 2 59 rfl rfl (by decide)<|qt (EB rfl)<|qt (LV rfl)<|nl<|qa<|cnd (p:=tb=true) rfl (λfb=>?_) (λfb=>?_)
      .refine sZ rfl<|ret<|pa<|W<|D<|C<|leave2 (v:=.string (ByteArray.mk #[])) (v':=vN 2) rfl rfl rfl ?_;exact ⟨_,2,rfl,.inr ⟨rfl,λhg=>by first | exact absurd ⟨(az hg A).2.1,(az hg A).2.2.1⟩ (htb.1 ‹_›) | exact (ha128.resolve_left (λh=>by have:=h.1;omega)).2 (az hg A).1⟩,X.x⟩
      .refine skip<|db<|sj λ_ gb=>qt mv<|qt mv<|?_;have hts:oa.size<=100000:=Dm (ha128.resolve_right (λh=>by have:=h.1;omega));refine qt (bM rfl rfl (by have e1:(ByteArray.mk #[110,111,116,32]).size=4:=rfl;have e2:(ByteArray.mk #[]).size=0:=rfl;omega))<|qZ 2 rfl<|nl<|gb<|ret<|W<|D<|C<|leave2 (v:=.string ((ByteArray.mk #[])++oa)) (v':=vN 0) rfl rfl rfl ?_;have hr:=ha128.resolve_right (λh=>by have:=h.1;omega);have ht0:=Decidable.of_not_not (λh=>absurd (htb.2 h) ‹_›);exact ⟨_,0,rfl,.inl ⟨rfl,OV na ht0 hr⟩,X.x⟩
    .refine skip<|Da<|exit<|N rfl<|M<|ca rfl<|ba<|xa rfl<|va<|ua<|ta<|sZ rfl<|ret<|leave2 (v:=.string (ByteArray.mk #[])) (v':=vN 2) rfl rfl rfl ?_;exact ⟨_,2,rfl,.inr ⟨rfl,λhg=>by have:=(az hg A).2.2.2;omega⟩,B.x⟩
theorem O9 (a:Option Addr) (m c:Nat) (rows:List Rw) (w0:World) (hs:Lits w0.heap a m c rows) (hm:m<=1048576) (hb:∀ i,i<m->lZ (el rows i).1) :
  Calls Tryz.prog 12 #[.slice a m c] w0 λe w'=>(∃ t:ByteArray,e= .returned (.tuple #[.string t,vN 0])/\QG (rows.map (·.1))/\bl t=xY (rows.map (·.1))++[63]/\Ext w0 w')\/(e= .returned (.tuple #[.string (ByteArray.mk #[]),vN 2])/\¬ QG (rows.map (·.1))/\Ext w0 w'):=by
 have hlen:=hs.1.len;refine enter Tryz.func12 rfl 38 Tryz.ntmps12 rfl<|sZ rfl<|sZ rfl<|seqLK (n:=38) (ds:=[]) (α:=Nat × (Option Addr) × Nat × (List ByteArray)) (λx=>[(0,.slice a m c),(4,.slice x.2.1 x.1 x.2.2.1)]) (λx M=>Hp No w0 M [cQ 9 eS x.2.1 x.1 x.2.2.1 x.2.2.2]/\x.1=m/\OutL rows x.1 x.2.2.2) ?_ ?_
 .intro wa N O xa;refine sZ rfl<|blockJ λ_ _ R _ U=>ay (α:=Nat × (Option Addr) × Nat × (List ByteArray)) (λx=>[(0,.slice a m c),(4,.slice x.2.1 x.1 x.2.2.1),(9,.slice a m c),(10,vN m),(11,vN x.1)]) (λx V=>Hp No w0 V [cQ 9 eS x.2.1 x.1 x.2.2.1 x.2.2.2]/\x.1<=m/\OutL rows x.1 x.2.2.2) (λx=>m-x.1) (0,none,0,[]) ⟨rfl,rfl,rfl,rfl,rfl,trivial⟩ ?_ ?_
  .refine ⟨((Hp.start No w0).nilQ 9 eS),?_⟩;(try dsimp only);exact ⟨Nat.zero_le _,OutL.nil rows⟩
  .rintro ya ⟨i,a2,G,os⟩ za ⟨B,⟨hi,ho⟩⟩;(try dsimp only at hi ho);intro Aa W X Y;dsimp only at B ⊢;refine sZ rfl<|seqJ λ_ Z _ aa=>cnd (p:=i<m) rfl (λba=>?_) (λba=>?_)
   .refine skip<|Z<|seqJ λ_ ca da _=>blockJ λ_ ea fa _ _=>sj λ_ ga=>qR 2 (.e (hs.1.ext B.x) (i:=i) (by omega) .z) rfl rfl<|st_e<|Eal B T.zv37 λ_ _ ha _=>st_s<|Est (v:=.agg (eL.enc (el rows i)).toArray) ha 0 T.sz37 rfl rfl rfl rfl rfl rfl λ_ C=>nl<|ga<|sj λ_ ia=>qR 1 (.d C 0 0 7 rfl .z) rfl rfl<|cl T.cf33 (EQ (el rows i) _ ((hs.2 i (by omega)).ext C.x) (hb i (by omega))) rfl λ_ _ ⟨D,ja,er,hl46,ka⟩=>⟨_,er,?_⟩;have H:=C.ext ka;refine qZ 5 rfl<|nl<|ia<|seqJ λ_ la ma _=>sZ rfl<|cnd (p:=ja≠0) rfl (λna=>?_) (λna=>?_)
    .refine sZ rfl<|ret<|ma<|fa<|da<|X _ _<|R<|O _ _<|leave2 (v:=.string (ByteArray.mk #[])) (v':=vN 2) rfl rfl rfl ?_;exact .inr ⟨rfl,λhg=>(hl46.resolve_left (λh=>by have:=h.1;omega)).2 (hg.2.2 _ (List.mem_map_of_mem (by rw [aF (by omega)];exact List.getElem_mem _))),H.x⟩
    .refine skip<|la<|region<|qt mv<|qt mv<|st_e<|Ebs (cs:=[.string D]) (e:=9) H (λ_=>by kernel_rfl) λ_ _ I _=>st_e<|EapQ I 2 T.sl50 rfl rfl rfl (I.lst (E:=eS) 0 rfl D rfl) (by omega) rfl rfl λa59 oa _ pa=>qt asg<|nl<|ea<|ca<|rL (.a1 (by omega) .z) rfl rfl<|W _ ((i+1),a59,oa,(os++[D])) _ ⟨rfl,rfl,rfl,rfl,rfl,trivial⟩ ⟨(pa.pick [2] (by decide)),?_⟩ ?_
     ·(try dsimp only);have hr:=hl46.resolve_right (λh=>by have:=h.1;omega);exact ⟨by omega,ho.snoc hr.2.1 hr.2.2⟩
     ·(try dsimp only);omega
   .refine exit<|aa<|Y _ _ _<|U<|N _ (i,a2,G,os) _ ⟨rfl,rfl,trivial⟩ ⟨B,?_⟩;(try dsimp only);exact ⟨by omega,ho⟩
 .rintro Ba ⟨i,a2,G,os⟩ Ca ⟨A,⟨him,ho⟩⟩;(try dsimp only at A him ho ⊢);refine seqJ λ_ qa J _=>sj λ_ K=>qZ 3 rfl<|st_if (p:=m=0) (ai rfl) (λra=>?_) (λra=>?_)
  .refine qZ 4 rfl<|nl<|K<|cndT rfl<|sZ rfl<|ret<|J<|leave2 (v:=.string (ByteArray.mk #[])) (v':=vN 2) rfl rfl rfl ?_;exact .inr ⟨rfl,λhg=>by first | exact hg.1 (by rw [List.eq_nil_of_length_eq_zero (show rows.length=0 by omega)];rfl) | (have:=hg.2.1;rw [List.length_map] at this;omega),A.x⟩
  .refine qZ 4 rfl<|nl<|K<|cnd (p:=256<m) rfl (λsa=>?_) (λsa=>?_)
   .refine sZ rfl<|ret<|J<|leave2 (v:=.string (ByteArray.mk #[])) (v':=vN 2) rfl rfl rfl ?_;exact .inr ⟨rfl,λhg=>by first | exact hg.1 (by rw [List.eq_nil_of_length_eq_zero (show rows.length=0 by omega)];rfl) | (have:=hg.2.1;rw [List.length_map] at this;omega),A.x⟩
   .refine skip<|qa<|sj λ_ ta=>qt mv<|cl T.cf34 (IJ os _ _ _ _ _ (A.srQ 0 rfl) (by omega) (Nat.le_trans (ho.len (by omega)) (by decide))) rfl λ_ _ ⟨L,er,hj77,ua⟩=>⟨_,er,?_⟩;have va:=A.ext ua;have hts:L.size<=100000000:=by rw [← bN,hj77];exact ho.len (by omega)
    refine qt (bM rfl rfl (by have e1:(ByteArray.mk #[63]).size=1:=rfl;omega))<|qZ 2 rfl<|nl<|ta<|ret<|leave2 (v:=.string (L++(ByteArray.mk #[63]))) (v':=vN 0) rfl rfl rfl ?_;have hg:=ho.good (by omega);exact .inl ⟨_,rfl,⟨λh=>by have:=congrArg List.length h;rw [List.length_map] at this;exact absurd this (by have:=hs.1.len;simp only [List.length_nil];omega),by rw [List.length_map];omega,hg.1⟩,by rw [ef,hj77,hg.2,jN];rfl,va.x⟩
end Go.Proofs.YtljfgmedbjlkaaaGreat
