/- A part of the engine: steps over the model. Over any program. -/
import Derived.Test.YtljfgmedbjlkaaaGreatTQ
import Derived.Test.YtljfgmedbjlkaaaGreatPDH
import Derived.Test.YtljfgmedbjlkaaaGreatVA
import Derived.Test.YtljfgmedbjlkaaaGreatVC
import Derived.Test.YtljfgmedbjlkaaaGreatProg
namespace Go.Proofs.YtljfgmedbjlkaaaGreat
open Go.RowKit Go.Eng Go.QP
theorem JS (s:ByteArray) (w0:World) (hs:s.size<=9223372036854775807) :
  Calls Tryz.prog 197 #[.string s] w0 λe w'=>e= .returned (vB (jl s))/\w0=w':=by
 refine enter Tryz.func197 rfl 32 Tryz.ntmps197 rfl<|sZ rfl<|seqJ λ_ J A _=>sj λ_ B=>qZ 3 rfl<|st_if (p:=s.size<1) (ai rfl) (λK=>?_) (λK=>?_)
 .exact qZ 4 rfl<|nl<|B<|cndT rfl<|sZ rfl<|ret<|A<|leave1 (v:=.bool false) rfl rfl<|⟨congrArg Ending.returned (dF (p:=jl s) (uW (by omega))),rfl⟩
 .refine qZ 4 rfl<|nl<|B<|cnd (p:=64<s.size) rfl (λL=>?_) (λL=>?_)
  .exact sZ rfl<|ret<|A<|leave1 (v:=.bool false) rfl rfl<|⟨congrArg Ending.returned (dF (p:=jl s) (uW (by omega))),rfl⟩
  .refine skip<|J<|seqJ λ_ M C _=>sZ rfl<|blockJ λ_ _ D _ N=>ay (α:=Nat) (λx=>[(0,.string s),(3,vN x)]) (λx O=>w0=O/\x<=s.size/\∀ j,j<x->48<=ch s j/\ch s j<=57) (λx=>s.size-x) (0) ⟨rfl,rfl,trivial⟩ ?_ ?_
   .refine ⟨rfl,?_⟩;(try dsimp only);exact ⟨Nat.zero_le _,λq h=>absurd h (Nat.not_lt_zero _)⟩
   .rintro ea i fa ⟨rfl,⟨hi,hq⟩⟩;(try dsimp only at hi hq);intro ga R E U;refine seqJ λ_ V _ W=>sZ rfl<|cnd (p:=i<s.size) rfl (λX=>?_) (λX=>?_)
    .refine skip<|V<|seqJ λ_ Y G _=>blockJ λ_ Z H _ _=>sj λ_ I=>qt mv<|qt mv<|qt (bg Tryz.underlying9 rfl rfl (by omega))<|qZ 1 rfl<|st_if (p:=(ch s i)<48) (ai rfl) (λaa=>?_) (λaa=>?_)
     .refine qZ 5 rfl<|nl<|I<|cndT rfl<|sj λ_ ba=>qt mv<|cl T.cf163 (mX s _ hs) rfl λ_ _ ⟨er,rfl⟩=>⟨_,er,?_⟩;exact qt asg<|nl<|ba<|sZ rfl<|ret<|H<|G<|E _ _<|D<|C<|leave1 (v:=vB (l9 s)) rfl rfl<|⟨congrArg Ending.returned (dq (q:=jl s) (uJ (i:=i) ‹_› (by omega))),rfl⟩
     .refine qZ 2 rfl<|st_gq 4 23 rfl rfl (by decide)<|qt (bg Tryz.underlying9 rfl rfl (by omega))<|qZ 2 rfl<|nl<|I<|cnd (p:=57<(ch s i)) rfl (λca=>?_) (λca=>?_)
      .refine sj λ_ da=>qt mv<|cl T.cf163 (mX s _ hs) rfl λ_ _ ⟨er,rfl⟩=>⟨_,er,?_⟩;exact qt asg<|nl<|da<|sZ rfl<|ret<|H<|G<|E _ _<|D<|C<|leave1 (v:=vB (l9 s)) rfl rfl<|⟨congrArg Ending.returned (dq (q:=jl s) (uJ (i:=i) ‹_› (by omega))),rfl⟩
      .refine skip<|Z<|Y<|rL (.a1 (by omega) .z) rfl rfl<|R _ ((i+1)) _ ⟨rfl,rfl,trivial⟩ ⟨rfl,?_⟩ ?_
       ·(try dsimp only);exact ⟨by omega,λj h=>(Nat.lt_or_ge j i).elim (hq j) λ_=>by rw [show j=i by omega];omega⟩
       ·(try dsimp only);omega
    .exact exit<|W<|U _ _ _<|N<|M<|sZ rfl<|ret<|leave1 (v:=.bool true) rfl rfl<|⟨congrArg Ending.returned (dT (p:=jl s) (.inr ((zB s).2 ⟨by omega,by omega,λj h=>hq j (by omega)⟩))),rfl⟩
theorem Gi (s:ByteArray) (w0:World) (hs:s.size<=68719476736) :
  Calls Tryz.prog 198 #[.string s] w0 λe w'=>∃ t,e= .returned (.string t)/\bl t=iI (bl s)/\Ext w0 w':=by
 have hmx:maxLen=9223372036854775807:=rfl;refine enter Tryz.func198 rfl 66 Tryz.ntmps198 rfl<|sZ rfl<|sZ rfl<|sj λ_ Y=>qt mv<|st_e<|Ebs (cs:=[.int .u8 ((34:Nat):Int)]) (e:=5) (Hp.start No w0) (λ_=>by kernel_rfl) λ_ _ G _=>st_e<|EapQ ((G.toQ eY 0 [34] rfl rfl (Nat.le_of_ble_eq_true rfl)).nilQ 5 eY) 0 T.sl120 rfl rfl rfl (((G.toQ eY 0 [34] rfl rfl (Nat.le_of_ble_eq_true rfl)).nilQ 5 eY).srQ 1 rfl) (by omega) rfl rfl λa7 Z _ aa=>qt asg<|nl<|Y<|seqJ λ_ ba _ _=>sZ rfl<|blockJ λ_ _ _ _ ca=>ay (α:=Nat × (Option Addr) × Nat × Nat × (List Nat)) (λx=>[(0,.string s),(3,.slice x.2.1 x.2.2.2.1 x.2.2.1),(4,vN x.1)]) (λx da=>Hp No w0 da [cQ 5 eY x.2.1 x.2.2.2.1 x.2.2.1 x.2.2.2.2]/\x.1<=s.size/\x.2.2.2.1<=1+4 * x.1/\x.2.2.2.2=34::((bl s).take x.1).flatMap bG) (λx=>s.size-x.1) (0,a7,Z,(0+1),([]++[34])) ⟨rfl,rfl,rfl,trivial⟩ ?_ ?_
 .refine ⟨(aa.pick [0] (by decide)),?_⟩;(try dsimp only);exact ⟨Nat.zero_le _,by omega,rfl⟩
 .rintro La ⟨i,aq,cq,m,ys⟩ Ma ⟨A,hq⟩;(try dsimp only at hq);intro Na B Oa ea;dsimp only at A ⊢;have hq1:=hq.1;have hq2:=hq.2.1;have hch:=PW s i;refine seqJ λ_ fa _ ga=>sZ rfl<|cnd (p:=i<s.size) rfl (λH=>?_) (λH=>?_)
  .refine skip<|fa<|seqJ λ_ C _ _=>blockJ λ_ D _ _ _=>sj λ_ ha=>qt mv<|qt mv<|qt (bg Tryz.underlying9 rfl rfl (by omega))<|qt asg<|nl<|ha<|blockJ λ_ E _ _ _=>sZ rfl<|cnd (p:=(ch s i)=34) rfl (λia=>?_) (λia=>?_)
   .refine region<|qt mv<|st_e<|Ebs (cs:=[.int .u8 ((92:Nat):Int),.int .u8 ((34:Nat):Int)]) (e:=5) A (λ_=>by kernel_rfl) λ_ _ I _=>st_e<|EapQ (I.toQ eY 0 [92,34] rfl rfl (Nat.le_of_ble_eq_true rfl)) 1 T.sl120 rfl rfl rfl ((I.toQ eY 0 [92,34] rfl rfl (Nat.le_of_ble_eq_true rfl)).srQ 0 rfl) (by omega) rfl rfl λa55 ja _ ka=>qt asg<|nl<|E<|D<|C<|rL (.a1 (by omega) .z) rfl rfl<|B _ ((i+1),a55,ja,(m+2),(ys++[92,34])) _ ⟨rfl,rfl,rfl,trivial⟩ ⟨(ka.pick [1] (by decide)),?_⟩ ?_
    ·(try dsimp only);exact ⟨by omega,by first | rfl | omega | (simp only [List.length_append,List.length_cons,List.length_nil];omega),eO hq.2.2 ‹_› (by first | exact jH (by omega) | exact jG (by omega) | exact (kJ (by omega)).symm | exact (kZ (by omega)).symm | exact (kz (by omega) (by omega) (by omega) (by omega)).symm | exact (jQ (by omega) (by omega) (by omega) (by omega) (by omega)).symm)⟩
    ·(try dsimp only);omega
   .refine sZ rfl<|cnd (p:=(ch s i)=92) rfl (λla=>?_) (λla=>?_)
    .refine region<|qt mv<|st_e<|Ebs (cs:=[.int .u8 ((92:Nat):Int),.int .u8 ((92:Nat):Int)]) (e:=5) A (λ_=>by kernel_rfl) λ_ _ J _=>st_e<|EapQ (J.toQ eY 0 [92,92] rfl rfl (Nat.le_of_ble_eq_true rfl)) 1 T.sl120 rfl rfl rfl ((J.toQ eY 0 [92,92] rfl rfl (Nat.le_of_ble_eq_true rfl)).srQ 0 rfl) (by omega) rfl rfl λa64 ma _ na=>qt asg<|nl<|E<|D<|C<|rL (.a1 (by omega) .z) rfl rfl<|B _ ((i+1),a64,ma,(m+2),(ys++[92,92])) _ ⟨rfl,rfl,rfl,trivial⟩ ⟨(na.pick [1] (by decide)),?_⟩ ?_
     ·(try dsimp only);exact ⟨by omega,by first | rfl | omega | (simp only [List.length_append,List.length_cons,List.length_nil];omega),eO hq.2.2 ‹_› (by first | exact jH (by omega) | exact jG (by omega) | exact (kJ (by omega)).symm | exact (kZ (by omega)).symm | exact (kz (by omega) (by omega) (by omega) (by omega)).symm | exact (jQ (by omega) (by omega) (by omega) (by omega) (by omega)).symm)⟩
     ·(try dsimp only);omega
    .refine sZ rfl<|cnd (p:=(ch s i)=10) rfl (λoa=>?_) (λoa=>?_)
     .refine region<|qt mv<|st_e<|Ebs (cs:=[.int .u8 ((92:Nat):Int),.int .u8 ((110:Nat):Int)]) (e:=5) A (λ_=>by kernel_rfl) λ_ _ K _=>st_e<|EapQ (K.toQ eY 0 [92,110] rfl rfl (Nat.le_of_ble_eq_true rfl)) 1 T.sl120 rfl rfl rfl ((K.toQ eY 0 [92,110] rfl rfl (Nat.le_of_ble_eq_true rfl)).srQ 0 rfl) (by omega) rfl rfl λa73 pa _ qa=>qt asg<|nl<|E<|D<|C<|rL (.a1 (by omega) .z) rfl rfl<|B _ ((i+1),a73,pa,(m+2),(ys++[92,110])) _ ⟨rfl,rfl,rfl,trivial⟩ ⟨(qa.pick [1] (by decide)),?_⟩ ?_
      ·(try dsimp only);exact ⟨by omega,by first | rfl | omega | (simp only [List.length_append,List.length_cons,List.length_nil];omega),eO hq.2.2 ‹_› (by first | exact jH (by omega) | exact jG (by omega) | exact (kJ (by omega)).symm | exact (kZ (by omega)).symm | exact (kz (by omega) (by omega) (by omega) (by omega)).symm | exact (jQ (by omega) (by omega) (by omega) (by omega) (by omega)).symm)⟩
      ·(try dsimp only);omega
     .refine sZ rfl<|cnd (p:=(ch s i)=9) rfl (λra=>?_) (λra=>?_)
      .refine region<|qt mv<|st_e<|Ebs (cs:=[.int .u8 ((92:Nat):Int),.int .u8 ((116:Nat):Int)]) (e:=5) A (λ_=>by kernel_rfl) λ_ _ L _=>st_e<|EapQ (L.toQ eY 0 [92,116] rfl rfl (Nat.le_of_ble_eq_true rfl)) 1 T.sl120 rfl rfl rfl ((L.toQ eY 0 [92,116] rfl rfl (Nat.le_of_ble_eq_true rfl)).srQ 0 rfl) (by omega) rfl rfl λa82 sa _ ta=>qt asg<|nl<|E<|D<|C<|rL (.a1 (by omega) .z) rfl rfl<|B _ ((i+1),a82,sa,(m+2),(ys++[92,116])) _ ⟨rfl,rfl,rfl,trivial⟩ ⟨(ta.pick [1] (by decide)),?_⟩ ?_
       ·(try dsimp only);exact ⟨by omega,by first | rfl | omega | (simp only [List.length_append,List.length_cons,List.length_nil];omega),eO hq.2.2 ‹_› (by first | exact jH (by omega) | exact jG (by omega) | exact (kJ (by omega)).symm | exact (kZ (by omega)).symm | exact (kz (by omega) (by omega) (by omega) (by omega)).symm | exact (jQ (by omega) (by omega) (by omega) (by omega) (by omega)).symm)⟩
       ·(try dsimp only);omega
      .refine sj λ_ M=>qZ 2 rfl<|st_if (p:=32<=(ch s i)) (ai rfl) (λua=>?_) (λua=>?_)
       .refine qZ 4 rfl<|nl<|M<|cnd (p:=(ch s i)<=126) rfl (λva=>?_) (λva=>?_)
        .refine region<|qt mv<|qt mv<|st_e<|Ebs (cs:=[.int .u8 (((ch s i):Nat):Int)]) (e:=5) A (λ_=>by kernel_rfl) λ_ _ N _=>st_e<|EapQ (N.toQ eY 0 [ch s i] rfl rfl (Nat.le_of_ble_eq_true rfl)) 1 T.sl120 rfl rfl rfl ((N.toQ eY 0 [ch s i] rfl rfl (Nat.le_of_ble_eq_true rfl)).srQ 0 rfl) (by omega) rfl rfl λa94 wa _ xa=>qt asg<|nl<|E<|D<|C<|rL (.a1 (by omega) .z) rfl rfl<|B _ ((i+1),a94,wa,(m+1),(ys++[ch s i])) _ ⟨rfl,rfl,rfl,trivial⟩ ⟨(xa.pick [1] (by decide)),?_⟩ ?_
         ·(try dsimp only);exact ⟨by omega,by first | rfl | omega | (simp only [List.length_append,List.length_cons,List.length_nil];omega),eO hq.2.2 ‹_› (by first | exact jH (by omega) | exact jG (by omega) | exact (kJ (by omega)).symm | exact (kZ (by omega)).symm | exact (kz (by omega) (by omega) (by omega) (by omega)).symm | exact (jQ (by omega) (by omega) (by omega) (by omega) (by omega)).symm)⟩
         ·(try dsimp only);omega
        .refine rgS [7,8] (by kernel_rfl) λ_ ya O=>?_;have za:=A.ext ya;refine dW 2 .z rfl rfl<|d_q rfl rfl (λ_=>FJ rfl rfl (by decide) hch)<|d_q rfl rfl (λ_=>bg (s:=bQ) (i:=(ch s i / 16)) Tryz.underlying9 rfl rfl (by show _<16;omega))<|d_q rfl rfl (λ_=>mv)<|d_q rfl rfl (λ_=>G9 rfl rfl (by decide))<|d_q rfl rfl (λ_=>bg (s:=bQ) (i:=(ch s i % 16)) Tryz.underlying9 rfl rfl (by show _<16;omega))<|d_e (by decide)<|d_e' rfl rfl<|Ebs (cs:=[.int .u8 ((92:Nat):Int),.int .u8 ((120:Nat):Int),.int .u8 (((ch bQ (ch s i / 16)):Nat):Int),.int .u8 (((ch bQ (ch s i % 16)):Nat):Int)]) (e:=5) za (λ_=>by kernel_rfl) λ_ _ R Aa=>?_;have Ba:=O.trans (Aa.mono O.size);refine ⟨λ_=>Ba,?_⟩;refine d_e (by decide)<|d_e' rfl rfl<|EapQ (R.toQ eY 0 [92,120,(ch bQ (ch s i / 16)),(ch bQ (ch s i % 16))] rfl rfl (Nat.le_of_ble_eq_true rfl)) 1 T.sl120 rfl rfl rfl ((R.toQ eY 0 [92,120,(ch bQ (ch s i / 16)),(ch bQ (ch s i % 16))] rfl rfl (Nat.le_of_ble_eq_true rfl)).srQ 0 rfl) (by omega) rfl rfl λa108 Ca _ Da=>⟨bv (by kernel_rfl),?_⟩;refine d_q rfl rfl (λ_=>asg)<|d_done<|E<|D<|C<|rL (.a1 (by omega) .z) rfl rfl<|B _ ((i+1),a108,Ca,(m+4),(ys++[92,120,(ch bQ (ch s i / 16)),(ch bQ (ch s i % 16))])) _ ⟨rfl,rfl,rfl,trivial⟩ ⟨(Da.pick [1] (by decide)),?_⟩ ?_
         ·(try dsimp only);exact ⟨by omega,by first | rfl | omega | (simp only [List.length_append,List.length_cons,List.length_nil];omega),eO hq.2.2 ‹_› (by first | exact jH (by omega) | exact jG (by omega) | exact (kJ (by omega)).symm | exact (kZ (by omega)).symm | exact (kz (by omega) (by omega) (by omega) (by omega)).symm | exact (jQ (by omega) (by omega) (by omega) (by omega) (by omega)).symm)⟩
         ·(try dsimp only);omega
       .refine qZ 4 rfl<|nl<|M<|cndF rfl<|rgS [7,8] (by kernel_rfl) λ_ Ea U=>?_;have Fa:=A.ext Ea;refine dW 2 .z rfl rfl<|d_q rfl rfl (λ_=>FJ rfl rfl (by decide) hch)<|d_q rfl rfl (λ_=>bg (s:=bQ) (i:=(ch s i / 16)) Tryz.underlying9 rfl rfl (by show _<16;omega))<|d_q rfl rfl (λ_=>mv)<|d_q rfl rfl (λ_=>G9 rfl rfl (by decide))<|d_q rfl rfl (λ_=>bg (s:=bQ) (i:=(ch s i % 16)) Tryz.underlying9 rfl rfl (by show _<16;omega))<|d_e (by decide)<|d_e' rfl rfl<|Ebs (cs:=[.int .u8 ((92:Nat):Int),.int .u8 ((120:Nat):Int),.int .u8 (((ch bQ (ch s i / 16)):Nat):Int),.int .u8 (((ch bQ (ch s i % 16)):Nat):Int)]) (e:=5) Fa (λ_=>by kernel_rfl) λ_ _ V Ga=>?_;have Ha:=U.trans (Ga.mono U.size);refine ⟨λ_=>Ha,?_⟩;refine d_e (by decide)<|d_e' rfl rfl<|EapQ (V.toQ eY 0 [92,120,(ch bQ (ch s i / 16)),(ch bQ (ch s i % 16))] rfl rfl (Nat.le_of_ble_eq_true rfl)) 1 T.sl120 rfl rfl rfl ((V.toQ eY 0 [92,120,(ch bQ (ch s i / 16)),(ch bQ (ch s i % 16))] rfl rfl (Nat.le_of_ble_eq_true rfl)).srQ 0 rfl) (by omega) rfl rfl λa122 Ia _ Ja=>⟨bv (by kernel_rfl),?_⟩;refine d_q rfl rfl (λ_=>asg)<|d_done<|E<|D<|C<|rL (.a1 (by omega) .z) rfl rfl<|B _ ((i+1),a122,Ia,(m+4),(ys++[92,120,(ch bQ (ch s i / 16)),(ch bQ (ch s i % 16))])) _ ⟨rfl,rfl,rfl,trivial⟩ ⟨(Ja.pick [1] (by decide)),?_⟩ ?_
        ·(try dsimp only);exact ⟨by omega,by first | rfl | omega | (simp only [List.length_append,List.length_cons,List.length_nil];omega),eO hq.2.2 ‹_› (by first | exact jH (by omega) | exact jG (by omega) | exact (kJ (by omega)).symm | exact (kZ (by omega)).symm | exact (kz (by omega) (by omega) (by omega) (by omega)).symm | exact (jQ (by omega) (by omega) (by omega) (by omega) (by omega)).symm)⟩
        ·(try dsimp only);omega
  .refine exit<|ga<|ea _ _ _<|ca<|ba<|sj λ_ Ka=>qt mv<|st_e<|Ebs (cs:=[.int .u8 ((34:Nat):Int)]) (e:=5) A (λ_=>by kernel_rfl) λ_ _ W _=>st_e<|EapQ (W.toQ eY 0 [34] rfl rfl (Nat.le_of_ble_eq_true rfl)) 1 T.sl120 rfl rfl rfl ((W.toQ eY 0 [34] rfl rfl (Nat.le_of_ble_eq_true rfl)).srQ 0 rfl) (by omega) rfl rfl λa132 _ _ X=>qt (Qe Tryz.underlying120 Tryz.underlying5 Tryz.underlying9 rfl (X.srQ 1 rfl))<|qt asg<|nl<|Ka<|ret<|leave1 (v:=.string (sN (ys++[34]))) rfl rfl<|?_;have hd:=Bp hq.2.2 H;exact ⟨_,rfl,by rw [hd];exact BU (sG s),X.x⟩
theorem T.cf197:CF Tryz.prog 197:=λ_ _=>by kernel_rfl
theorem T.cf198:CF Tryz.prog 198:=λ_ _=>by kernel_rfl
theorem T.cf131:CF Tryz.prog 131:=λ_ _=>by kernel_rfl
theorem qH {x:Tm} (h:kI x):x.2.size<=1048576:=by
 rcases h with ⟨_,h⟩ | ⟨_,h⟩
 .have:=dV (s:=x.2) (by rw [h];decide);omega
 .omega
theorem nE (z:Tm) (w0:World) (hs:z.2.size<=1048576) :
  Calls Tryz.prog 131 #[.agg (eT.enc z).toArray] w0 λe w'=>∃ t,e= .returned (.string t)/\bl t=eF z/\Ext w0 w':=by
 refine enter Tryz.func131 rfl 17 Tryz.ntmps131 rfl<|sj λ_ B=>st_e<|Ebx (v:=.agg #[vB (z.1=true),.string z.2]) (Hp.start No w0) rfl λ_ _ A _=>qt asg<|nl<|B<|seqJ λ_ C D _=>sL (.b A 0 0 rfl .z) rfl rfl<|cnd (p:=z.1=true) rfl (λE=>?_) (λE=>?_)
 .exact sL (.b A 0 1 rfl .z) rfl rfl<|ret<|D<|leave1 (v:=.string z.2) rfl rfl<|⟨_,rfl,by unfold eF;first | rw [if_pos ‹_›] | rw [if_neg ‹_›,if_pos ‹_›] | (rw [if_neg ‹_›,if_neg ‹_›];exact rfl),A.x⟩
 .refine skip<|C<|sj λ_ G=>qR 2 (.b A 0 1 rfl .z) rfl rfl<|cl T.cf197 (JS z.2 _ (by omega)) rfl λ_ _ ⟨er,rfl⟩=>⟨_,er,?_⟩;refine qt asg<|nl<|G<|seqJ λ_ H I _=>sZ rfl<|cnd (p:=jl z.2) rfl (λJ=>?_) (λJ=>?_)
  .exact sL (.b A 0 1 rfl .z) rfl rfl<|ret<|I<|leave1 (v:=.string z.2) rfl rfl<|⟨_,rfl,by unfold eF;first | rw [if_pos ‹_›] | rw [if_neg ‹_›,if_pos ‹_›] | (rw [if_neg ‹_›,if_neg ‹_›];exact rfl),A.x⟩
  .refine skip<|H<|sj λ_ K=>qR 2 (.b A 0 1 rfl .z) rfl rfl<|cl T.cf198 (Gi z.2 _ (by omega)) rfl λ_ _ ⟨L,er,ht23,M⟩=>⟨_,er,?_⟩;have N:=A.ext M;exact qt asg<|nl<|K<|ret<|leave1 (v:=.string L) rfl rfl<|⟨_,rfl,by unfold eF;first | rw [if_pos ‹_›] | rw [if_neg ‹_›,if_pos ‹_›] | (rw [if_neg ‹_›,if_neg ‹_›];exact ht23),N.x⟩
theorem yO (p:ByteArray) (xs:List Tm) (a:Option Addr) (c:Nat) (w0:World) (hs:Srm eT w0.heap a xs.length c xs) (hg:rD p xs) :
  Calls Tryz.prog 130 #[.agg #[.string p,.slice a xs.length c]] w0 λe w'=>∃ t,e= .returned (.string t)/\bl t=iM p xs/\Ext w0 w':=by
 have hmx:maxLen=9223372036854775807:=rfl;have hp:=dV (s:=p) (by rw [hg.1];decide);have da:=hg.2.1;refine enter Tryz.func130 rfl 35 Tryz.ntmps130 rfl<|sj λ_ L=>st_e<|Ebx (v:=.agg #[.string p,.slice a xs.length c]) (Hp.start No w0) rfl λD _ E _=>qt asg<|nl<|L<|sL (.b E 0 0 rfl .z) rfl rfl<|seqJ λ_ M _ _=>sZ rfl<|blockJ λ_ _ _ _ N=>ay (α:=Nat × ByteArray) (λx=>[(1,.pointer (some ⟨D,0,none⟩)),(3,.string x.2),(4,vN x.1)]) (λx O=>Hp No w0 O [cB D 32 [.string p,.slice a xs.length c]]/\x.1<=xs.length/\bl x.2=j5 p xs x.1/\x.2.size<=64+x.1 * 4100) (λx=>xs.length-x.1) (0,p) ⟨rfl,rfl,rfl,trivial⟩ ?_ ?_
 .refine ⟨(E.pick [0] (by decide)),?_⟩;(try dsimp only);exact ⟨Nat.zero_le _,atomP_0.symm,by omega⟩
 .rintro ea ⟨i,t⟩ fa ⟨A,⟨hi,hq,hz⟩⟩;(try dsimp only at hi hq hz);intro ga G ha R;dsimp only at A ⊢;refine seqJ λ_ U _ V=>sL (.b A 0 1 rfl .z) rfl rfl<|cnd (p:=i<xs.length) rfl (λW=>?_) (λW=>?_)
  .refine skip<|U<|seqJ λ_ H _ _=>blockJ λ_ I _ _ _=>seqJ λ_ J _ _=>sZ rfl<|cnd (p:=i=0) rfl (λX=>?_) (λX=>?_)
   .refine region<|qt mv<|qt (bM rfl rfl (by have hs40:(ByteArray.mk #[40]).size=1:=rfl;omega))<|qt asg<|nl<|J<|region<|qR 6 (.b A 0 1 rfl (.e (hs.e A) (i:=i) (by omega) .z)) rfl rfl<|cl T.cf131 (nE (el xs i) _ (by have h:=hg.2.2 _ (ak (xs:=xs) (i:=i) ‹_›);exact qH h)) rfl λ_ _ ⟨B,er,ht45,Y⟩=>⟨_,er,?_⟩;have Z:=A.ext Y;refine qt (bM rfl rfl (by have hsz:B.size<=4098:=(by rw [mg,ht45];exact cU (hg.2.2 _ (ak ‹_›)));have hs40:(ByteArray.mk #[40]).size=1:=rfl;have hs44:(ByteArray.mk #[44,32]).size=2:=rfl;simp only [ByteArray.size_append];omega))<|qt asg<|nl<|I<|H<|rL (.a1 (by omega) .z) rfl rfl<|G _ ((i+1),((t++(ByteArray.mk #[40]))++B)) _ ⟨rfl,rfl,rfl,trivial⟩ ⟨(Z.pick [0] (by decide)),?_⟩ ?_
    ·(try dsimp only);have hsz:B.size<=4098:=by rw [mg,ht45];exact cU (hg.2.2 _ (ak ‹_›))
     have hs40:(ByteArray.mk #[40]).size=1:=rfl;have hs44:(ByteArray.mk #[44,32]).size=2:=rfl;exact ⟨by omega,by first | (rw [Dv ‹_› ‹_›,bW,bW,hq,ht45];rfl) | (rw [BQ ‹_› ‹_›,bW,bW,hq,ht45];rfl),by simp only [ByteArray.size_append];omega⟩
    ·(try dsimp only);omega
   .refine region<|qt mv<|qt (bM rfl rfl (by have hs44:(ByteArray.mk #[44,32]).size=2:=rfl;omega))<|qt asg<|nl<|J<|region<|qR 6 (.b A 0 1 rfl (.e (hs.e A) (i:=i) (by omega) .z)) rfl rfl<|cl T.cf131 (nE (el xs i) _ (by have h:=hg.2.2 _ (ak (xs:=xs) (i:=i) ‹_›);exact qH h)) rfl λ_ _ ⟨C,er,ht50,aa⟩=>⟨_,er,?_⟩;have ba:=A.ext aa;refine qt (bM rfl rfl (by have hsz:C.size<=4098:=(by rw [mg,ht50];exact cU (hg.2.2 _ (ak ‹_›)));have hs40:(ByteArray.mk #[40]).size=1:=rfl;have hs44:(ByteArray.mk #[44,32]).size=2:=rfl;simp only [ByteArray.size_append];omega))<|qt asg<|nl<|I<|H<|rL (.a1 (by omega) .z) rfl rfl<|G _ ((i+1),((t++(ByteArray.mk #[44,32]))++C)) _ ⟨rfl,rfl,rfl,trivial⟩ ⟨(ba.pick [0] (by decide)),?_⟩ ?_
    ·(try dsimp only);have hsz:C.size<=4098:=by rw [mg,ht50];exact cU (hg.2.2 _ (ak ‹_›))
     have hs40:(ByteArray.mk #[40]).size=1:=rfl;have hs44:(ByteArray.mk #[44,32]).size=2:=rfl;exact ⟨by omega,by first | (rw [Dv ‹_› ‹_›,bW,bW,hq,ht50];rfl) | (rw [BQ ‹_› ‹_›,bW,bW,hq,ht50];rfl),by simp only [ByteArray.size_append];omega⟩
    ·(try dsimp only);omega
  .refine exit<|V<|R _ _ _<|N<|M<|seqJ λ_ K _ _=>sL (.b A 0 1 rfl .z) rfl rfl<|cnd (p:=0<xs.length) rfl (λca=>?_) (λca=>?_)
   .refine region<|qt mv<|qt (bM rfl rfl (by have hs41:(ByteArray.mk #[41]).size=1:=rfl;omega))<|qt asg<|nl<|K<|sZ rfl<|ret<|leave1 (v:=.string (t++(ByteArray.mk #[41]))) rfl rfl<|?_;have e:i=xs.length:=by omega
    subst e;exact ⟨_,rfl,by first | (rw [bW,hq];exact CY ‹_›) | (rw [hq];rw [show xs.length=0 by omega];exact DC ‹_›),A.x⟩
   .refine skip<|K<|sZ rfl<|ret<|leave1 (v:=.string t) rfl rfl<|?_;have e:i=xs.length:=by omega
    subst e;exact ⟨_,rfl,by first | (rw [bW,hq];exact CY ‹_›) | (rw [hq];rw [show xs.length=0 by omega];exact DC ‹_›),A.x⟩
theorem T.cf130:CF Tryz.prog 130:=λ_ _=>by kernel_rfl
theorem T.cf75:CF Tryz.prog 75:=λ_ _=>by kernel_rfl
theorem T.cf20:CF Tryz.prog 20:=λ_ _=>by kernel_rfl
theorem T.cf35:CF Tryz.prog 35:=λ_ _=>by kernel_rfl
theorem NL {l:Qlit} (h:bm l) (h1:¬ l.kind=1) (h2:¬ l.kind=2):l.kind=3:=by
 rcases h with ⟨h,_⟩ | ⟨h,_⟩
 .omega
 .exact h
theorem zF {l:Qlit} {t:ByteArray} {k:Nat} (h:bm l) (q:(k=0/\bm l/\bl t=iE l)\/(k=2/\t=ByteArray.empty/\¬ bm l)):bl t=iE l:=by
 rcases q with q | q
 .exact q.2.2
 .exact absurd h q.2.2
theorem AX (z:Rw) (w0:World) (hs:lY w0.heap z) (hg:bm z.1) :
  Calls Tryz.prog 75 #[.agg (eL.enc z).toArray] w0 λe w'=>∃ t,e= .returned (.string t)/\bl t=iE z.1/\Ext w0 w':=by
 have hmx:maxLen=9223372036854775807:=rfl;refine enter Tryz.func75 rfl 24 Tryz.ntmps75 rfl<|sj λ_ U=>st_e<|Ebx (v:=.agg (eL.enc z).toArray) (Hp.start No w0) rfl λ_ _ A _=>qt asg<|nl<|U<|seqJ λ_ V G _=>sL (.b A 0 0 rfl .z) rfl rfl<|blockJ λ_ W H _ _=>sL (.i .z) rfl rfl<|cnd (p:=z.1.kind=1) rfl (λX=>?_) (λX=>?_)
 .refine sj λ_ Y=>qR 2 (.d A 0 1 2 rfl .z) rfl rfl<|cl T.cf130 (yO z.1.pred z.1.args z.2.1 z.2.2 _ (Srm.ext hs A.x) (az hg (by omega)).1) rfl λ_ _ ⟨Z,er,ht20,aa⟩=>⟨_,er,?_⟩;have ba:=A.ext aa;exact qt asg<|nl<|Y<|ret<|H<|G<|leave1 (v:=.string Z) rfl rfl<|⟨_,rfl,by unfold iE;first | (rw [if_neg (by omega),if_pos ‹_›,bW,ht20];rfl) | (rw [if_neg (by omega),if_neg (by omega)];exact ht20),ba.x⟩
 .refine sL (.i .z) rfl rfl<|cnd (p:=z.1.kind=2) rfl (λca=>?_) (λca=>?_)
  .refine sj λ_ da=>qR 2 (.d A 0 1 2 rfl .z) rfl rfl<|cl T.cf130 (yO z.1.pred z.1.args z.2.1 z.2.2 _ (Srm.ext hs A.x) (az hg (by omega)).1) rfl λ_ _ ⟨I,er,ht28,ea⟩=>⟨_,er,?_⟩;have fa:=A.ext ea;exact qt (bM rfl rfl (by have J:I.size<=70000:=(by rw [mg,ht28];exact oZ (az hg (by omega)).1);have K:(ByteArray.mk #[110,111,116,32]).size=4:=rfl;omega))<|qt asg<|nl<|da<|ret<|H<|G<|leave1 (v:=.string ((ByteArray.mk #[110,111,116,32])++I)) rfl rfl<|⟨_,rfl,by unfold iE;first | (rw [if_neg (by omega),if_pos ‹_›,bW,ht28];rfl) | (rw [if_neg (by omega),if_neg (by omega)];exact ht28),fa.x⟩
  .refine skip<|W<|V<|seqJ λ_ ga _ _=>kT [1,5] [0,1,3,4,5,7,8] (.one 0 (.one 1 (.one 4 (.one 5 (.one 2 (.one 3 (.one 6 (.one 7 (.one 8 .done))))))))) (by kernel_rfl) (by kernel_rfl) λL ha _=>?_;have C:=A.ext ha;have M:Ext L L:=Below.refl _ _;refine dW 4 (.d C 0 3 2 rfl (.d C 0 5 2 rfl .z)) rfl rfl<|?_;have B:=NL hg (by omega) (by omega);refine d_e (by decide)<|d_c' rfl rfl (aT _ T.cf131 rfl rfl) (nE z.1.left _ (qH (aG hg B).1)) λ_ _ ⟨D,er,ht42,N⟩=>⟨_,er,?_⟩;have ia:=C.ext N;have E:=M.trans (N.mono M.size);refine ⟨λ_=>E,?_⟩;refine d_q rfl rfl (λ_=>bM rfl rfl (by have J:D.size<=4098:=(by rw [mg,ht42];exact cU (aG hg B).1);have K:(ByteArray.mk #[32,33,61,32]).size=4:=rfl;omega))<|d_e (by decide)<|d_c' rfl rfl (aT _ T.cf131 rfl rfl) (nE z.1.right _ (qH (aG hg B).2.1)) λ_ _ ⟨O,er,ht48,R⟩=>⟨_,er,?_⟩;have ja:=ia.ext R;have ka:=E.trans (R.mono E.size);refine ⟨λ_=>ka,?_⟩;exact d_q rfl rfl (λ_=>bM rfl rfl (by have J:D.size<=4098:=(by rw [mg,ht42];exact cU (aG hg B).1);have K:(ByteArray.mk #[32,33,61,32]).size=4:=rfl;have la:O.size<=4098:=(by rw [mg,ht48];exact cU (aG hg B).2.1);simp only [ByteArray.size_append];omega))<|d_q rfl rfl (λ_=>asg)<|d_done<|ga<|ret<|leave1 (v:=.string ((D++(ByteArray.mk #[32,33,61,32]))++O)) rfl rfl<|⟨_,rfl,by rw [bW,bW,ht42,ht48];unfold iE;rw [if_pos B];rfl,ja.x⟩
theorem tJ (z:Rw) (w0:World) (hs:lY w0.heap z) (hb:lZ z.1) :
  Calls Tryz.prog 35 #[.agg (eL.enc z).toArray] w0 λe w'=>∃ (t:ByteArray) (k:Nat),e= .returned (.tuple #[.string t,.int .i64 (k:Nat)])/\((k=0/\bm z.1/\bl t=iE z.1)\/(k=2/\t=ByteArray.empty/\¬ bm z.1))/\Ext w0 w':=by
 refine enter Tryz.func35 rfl 11 Tryz.ntmps35 rfl<|sj λ_ D=>st_e<|Ebx (v:=.agg (eL.enc z).toArray) (Hp.start No w0) rfl λ_ _ C _=>qZ 2 rfl<|nl<|D<|sj λ_ E=>qR 1 (.d C 0 0 7 rfl .z) rfl rfl<|cl T.cf74 (oK z _ (Srm.ext hs C.x) hb) rfl λ_ _ ⟨r,er,hr,G⟩=>⟨_,er,?_⟩;have A:=C.ext G;refine qt asg<|nl<|E<|seqJ λ_ H I _=>sj λ_ J=>qt mv<|qt (d9 rfl)<|nl<|J<|cnd (p:=¬ (r=true)) rfl (λB=>?_) (λB=>?_)
 .refine sZ rfl<|ret<|I<|leave2 (v:=.string (ByteArray.mk #[])) (v':=vN 2) rfl rfl rfl ?_;exact ⟨_,2,rfl,.inr ⟨rfl,rfl,λq=>absurd (hr.2 q) (by simpa using B)⟩,A.x⟩
 .refine skip<|H<|sj λ_ K=>qR 1 (.d A 0 0 7 rfl .z) rfl rfl<|cl T.cf75 (AX z _ (Srm.ext hs A.x) (hr.1 (by simpa using B))) rfl λ_ _ ⟨L,er,ht22,M⟩=>⟨_,er,?_⟩;have N:=A.ext M;refine qZ 2 rfl<|nl<|K<|ret<|leave2 (v:=.string L) (v':=vN 0) rfl rfl rfl ?_;exact ⟨_,0,rfl,.inl ⟨rfl,hr.1 (by simpa using B),ht22⟩,N.x⟩
theorem LB (rows:List Rw) (a:Option Addr) (c:Nat) (w0:World) (hs:Lits w0.heap a rows.length c rows) (hb:∀ i,i<rows.length->lZ (el rows i).1) :
  Calls Tryz.prog 13 #[.slice a rows.length c] w0 λe w'=>(∃ t:ByteArray,e= .returned (.tuple #[.string t,vN 0])/\QG (rows.map (·.1))/\bl t=xY (rows.map (·.1))++[63]/\Ext w0 w')\/(e= .returned (.tuple #[.string (ByteArray.mk #[]),vN 2])/\¬ QG (rows.map (·.1))/\Ext w0 w'):=by
 have hmx:maxLen=9223372036854775807:=rfl;have hlm:(rows.map (·.1)).length=rows.length:=List.length_map _;have hcap:=hs.1.cap;refine enter Tryz.func13 rfl 34 Tryz.ntmps13 rfl<|sZ rfl<|seqJ λ_ J K _=>sj λ_ L=>qt mv<|cl T.cf20 (yY a rows.length c rows _ (hs.ext (Hp.start No w0).x) hb) rfl λ_ _ ⟨r,er,hr,M⟩=>⟨_,er,?_⟩;have D:=(Hp.start No w0).ext M;refine qt (d9 rfl)<|nl<|L<|cnd (p:=¬ (r=true)) rfl (λC=>?_) (λC=>?_)
 .refine sZ rfl<|ret<|K<|leave2 (v:=.string (ByteArray.mk #[])) (v':=vN 2) rfl rfl rfl ?_;exact .inr ⟨rfl,λq=>absurd (hr.2 q) (by simpa using C),D.x⟩
 .refine skip<|J<|sZ rfl<|seqJ λ_ N _ _=>sZ rfl<|blockJ λ_ _ _ _ O=>?_;have hqg:QG (rows.map (·.1)):=hr.1 (by simpa using C);have hq256:=hqg.2.1;refine ay (α:=Nat × ByteArray) (λx=>[(0,.slice a rows.length c),(4,.string x.2),(5,vN x.1)]) (λx R=>Hp No w0 R []/\x.1<=rows.length/\bl x.2=nr (rows.map (·.1)) x.1/\x.2.size<=x.1 * 80002) (λx=>rows.length-x.1) (0,(ByteArray.mk #[])) ⟨rfl,rfl,rfl,trivial⟩ ?_ ?_
  .refine ⟨(D.pick [] (by decide)),?_⟩;(try dsimp only);exact ⟨Nat.zero_le _,rfl,Nat.le_refl _⟩
  .rintro ia ⟨i,t⟩ ja ⟨A,⟨hi,hq,hz⟩⟩;(try dsimp only at hi hq hz);intro ka E la U;dsimp only at A ⊢;refine seqJ λ_ V _ W=>sZ rfl<|cnd (p:=i<rows.length) rfl (λX=>?_) (λX=>?_)
   .refine skip<|V<|seqJ λ_ G _ _=>blockJ λ_ H _ _ _=>seqJ λ_ I _ _=>sZ rfl<|cnd (p:=0<i) rfl (λY=>?_) (λY=>?_)
    .refine region<|qt mv<|qt (bM rfl rfl (by have hs44:(ByteArray.mk #[44,32]).size=2:=rfl;omega))<|qt asg<|nl<|I<|sj λ_ Z=>qR 4 (.e (hs.1.e A) (i:=i) (by omega) .z) rfl rfl<|?_;have hlg:bm (el rows i).1:=hqg.2.2 _ (List.mem_map.2 ⟨_,ak (xs:=rows) (i:=i) ‹_›,rfl⟩);refine cl T.cf35 (tJ (el rows i) _ ((hs.2 i ‹_›).ext A.x) (hb i ‹_›)) rfl λ_ _ ⟨B,aa,er,hlt,ba⟩=>⟨_,er,?_⟩;have ca:=A.ext ba;have ht2:=zF hlg hlt;have da:B.size<=80000:=by rw [mg,ht2];exact rU hlg
     refine qZ 5 rfl<|nl<|Z<|region<|qt mv<|qt mv<|qt (bM rfl rfl (by have hs44:(ByteArray.mk #[44,32]).size=2:=rfl;(try simp only [ByteArray.size_append]);omega))<|qt asg<|nl<|H<|G<|rL (.a1 (by omega) .z) rfl rfl<|E _ ((i+1),((t++(ByteArray.mk #[44,32]))++B)) _ ⟨rfl,rfl,rfl,trivial⟩ ⟨(ca.pick [] (by decide)),?_⟩ ?_
     ·(try dsimp only);have hs44:(ByteArray.mk #[44,32]).size=2:=rfl;have hel:el (rows.map (·.1)) i=(el rows i).1:=fI ‹_›;exact ⟨by omega,by first | (rw [CU (by omega) ‹_›,bW,bW,hq,ht2,hel];rfl) | (rw [Cz (by omega) ‹_›,bW,hq,ht2,hel]),by simp only [ByteArray.size_append];omega⟩
     ·(try dsimp only);omega
    .refine skip<|I<|sj λ_ ea=>qR 4 (.e (hs.1.e A) (i:=i) (by omega) .z) rfl rfl<|?_;have hlg:bm (el rows i).1:=hqg.2.2 _ (List.mem_map.2 ⟨_,ak (xs:=rows) (i:=i) ‹_›,rfl⟩);refine cl T.cf35 (tJ (el rows i) _ ((hs.2 i ‹_›).ext A.x) (hb i ‹_›)) rfl λ_ _ ⟨B,aa,er,hlt,fa⟩=>⟨_,er,?_⟩;have ga:=A.ext fa;have ht2:=zF hlg hlt;have da:B.size<=80000:=by rw [mg,ht2];exact rU hlg
     refine qZ 5 rfl<|nl<|ea<|region<|qt mv<|qt mv<|qt (bM rfl rfl (by have hs44:(ByteArray.mk #[44,32]).size=2:=rfl;(try simp only [ByteArray.size_append]);omega))<|qt asg<|nl<|H<|G<|rL (.a1 (by omega) .z) rfl rfl<|E _ ((i+1),(t++B)) _ ⟨rfl,rfl,rfl,trivial⟩ ⟨(ga.pick [] (by decide)),?_⟩ ?_
     ·(try dsimp only);have hs44:(ByteArray.mk #[44,32]).size=2:=rfl;have hel:el (rows.map (·.1)) i=(el rows i).1:=fI ‹_›;exact ⟨by omega,by first | (rw [CU (by omega) ‹_›,bW,bW,hq,ht2,hel];rfl) | (rw [Cz (by omega) ‹_›,bW,hq,ht2,hel]),by simp only [ByteArray.size_append];omega⟩
     ·(try dsimp only);omega
   .refine exit<|W<|U _ _ _<|O<|N<|sj λ_ ha=>qt mv<|qt (bM rfl rfl (by have hs63:(ByteArray.mk #[63]).size=1:=rfl;omega))<|qZ 2 rfl<|nl<|ha<|ret<|leave2 (v:=.string (t++(ByteArray.mk #[63]))) (v':=vN 0) rfl rfl rfl ?_;have e:i=(rows.map (·.1)).length:=by omega
    exact .inl ⟨_,rfl,hqg,by rw [bW,hq,e,JX];rfl,A.x⟩
theorem T.sl148:SL Tryz.prog 148 220 2 24 (.agg #[vN 0,.string ByteArray.empty]):=aY Tryz.underlying148 (by kernel_rfl) rfl (by decide)
theorem T.cf134:CF Tryz.prog 134:=λ_ _=>by kernel_rfl
theorem O8 (xs:List Oc) (i:Nat):(zJ (xs.take i)).length<=xs.length:=by
 have:∀ (l:List Oc) (a:List ByteArray),(l.foldl (λl o=>fH l o.2) a).length<=a.length+l.length:=by
  intro l
  induction l with
  | nil=>intro a;exact Nat.le_refl _
  | cons o l ih=>
   intro a
   have h1:=ih (fH a o.2)
   have h2:(fH a o.2).length<=a.length+1:=by unfold fH;split <;> simp
   simp only [List.foldl_cons,List.length_cons];omega
 have h:=this (xs.take i) [];rw [List.length_take] at h;exact Nat.le_trans h (by show 0+min i xs.length<=_;omega)
theorem Hz (z:Rw) (w0:World) :
  Calls Tryz.prog 135 #[.agg (eL.enc z).toArray] w0 λe w'=>((z.1.kind=1\/z.1.kind=2)/\e= .returned (.slice z.2.1 z.1.args.length z.2.2)/\Ext w0 w')\/(¬ (z.1.kind=1\/z.1.kind=2)/\z.1.kind=3/\∃ a,e= .returned (.slice a 2 2)/\Hp No w0 w' [cQ 35 eT a 2 2 [z.1.left,z.1.right]])\/(¬ (z.1.kind=1\/z.1.kind=2)/\¬ z.1.kind=3/\e= .returned (.slice none 0 0)/\Ext w0 w'):=by
 refine enter Tryz.func135 rfl 18 Tryz.ntmps135 rfl<|sj λ_ G=>st_e<|Ebx (v:=.agg (eL.enc z).toArray) (Hp.start No w0) rfl λ_ _ A _=>qt asg<|nl<|G<|seqJ λ_ H B _=>sL (.b A 0 0 rfl .z) rfl rfl<|blockJ λ_ I C _ _=>seqJ λ_ D _ _=>sL (.i .z) rfl rfl<|cnd (p:=z.1.kind=1) rfl (λE=>?_) (λE=>?_)
 .exact skip<|D<|cndY (p:=z.1.kind=1) rfl (not_not_intro E)<|sL (.b A 0 2 rfl .z) rfl rfl<|ret<|C<|B<|leave1 (v:=.slice z.2.1 z.1.args.length z.2.2) rfl rfl<|.inl ⟨by omega,rfl,A.x⟩
 .refine rL (.i .z) rfl rfl<|D<|cnd (p:=z.1.kind=2) rfl (λJ=>?_) (λJ=>?_)
  .exact sL (.b A 0 2 rfl .z) rfl rfl<|ret<|C<|B<|leave1 (v:=.slice z.2.1 z.1.args.length z.2.2) rfl rfl<|.inl ⟨by omega,rfl,A.x⟩
  .refine sL (.i .z) rfl rfl<|cnd (p:=z.1.kind=3) rfl (λK=>?_) (λK=>?_)
   .exact sj λ_ L=>qR 4 (.d A 0 3 2 rfl (.d A 0 5 2 rfl .z)) rfl rfl<|st_e<|Ebs (cs:=[vB (z.1.left.1=true),.string z.1.left.2,vB (z.1.right.1=true),.string z.1.right.2]) (e:=35) A (λ_=>by kernel_rfl) λM _ N _=>qt asg<|nl<|L<|ret<|C<|B<|leave1 (v:=.slice (some ⟨M,0,none⟩) 2 2) rfl rfl<|.inr (.inl ⟨by omega,by omega,_,rfl,((N.toQ eT 0 [z.1.left,z.1.right] rfl rfl (Nat.le_of_ble_eq_true rfl)).pick [0] (by decide))⟩)
   .exact skip<|I<|H<|sZ rfl<|ret<|leave1 (v:=.slice none 0 0) rfl rfl<|.inr (.inr ⟨by omega,by omega,rfl,A.x⟩)
theorem L9 (xs:List ByteArray) (a:Option Addr) (m c:Nat) (s:ByteArray) (w0:World) (hm:m=xs.length) (hs:Srm eS w0.heap a m c xs) :
  Calls Tryz.prog 134 #[.slice a m c,.string s] w0 λe w'=>e= .returned (vB (s ∈ xs))/\w0=w':=by
 subst hm;have hcap:=hs.cap;refine enter Tryz.func134 rfl 18 Tryz.ntmps134 rfl<|sZ rfl<|seqJ λ_ C D _=>sZ rfl<|blockJ λ_ _ E _ G=>ay (α:=Nat) (λx=>[(0,.slice a xs.length c),(1,.string s),(5,vN x)]) (λx H=>w0=H/\x<=xs.length/\∀ q,q<x->el xs q≠s) (λx=>xs.length-x) (0) ⟨rfl,rfl,rfl,trivial⟩ ?_ ?_
 .refine ⟨rfl,?_⟩;(try dsimp only);exact ⟨Nat.zero_le _,λq h=>absurd h (Nat.not_lt_zero _)⟩
 .rintro X i Y ⟨rfl,⟨hi,hq⟩⟩;(try dsimp only at hi hq);intro Z I J K;refine seqJ λ_ L _ M=>sZ rfl<|cnd (p:=i<xs.length) rfl (λN=>?_) (λN=>?_)
  .refine skip<|L<|seqJ λ_ O R _=>blockJ λ_ U V _ _=>sL (.e hs (i:=i) (by omega) .z) rfl rfl<|cnd (p:=(el xs i).toList=s.toList) rfl (λA=>?_) (λA=>?_)
   .exact sZ rfl<|ret<|V<|R<|J _ _<|E<|D<|leave1 (v:=.bool true) rfl rfl<|⟨congrArg Ending.returned (dT (p:=s ∈ xs) (by rw [← aC A];exact ak ‹_›)),rfl⟩
   .refine skip<|U<|O<|rL (.a1 (by omega) .z) rfl rfl<|I _ ((i+1)) _ ⟨rfl,rfl,rfl,trivial⟩ ⟨rfl,?_⟩ ?_
    ·(try dsimp only);exact ⟨by omega,λq h=>(Nat.lt_or_ge q i).elim (hq q) λB=>by rw [show q=i by omega];exact λW=>A (by rw [W])⟩
    ·(try dsimp only);omega
  .exact exit<|M<|K _ _ _<|G<|C<|sZ rfl<|ret<|leave1 (v:=.bool false) rfl rfl<|⟨congrArg Ending.returned (dF (p:=s ∈ xs) (λh=>by obtain ⟨q,aa,B⟩:=aU h;exact hq q (by omega) B)),rfl⟩
theorem LP (xs:List Oc) (a:Option Addr) (c:Nat) (w0:World) (hs:Srm Ij w0.heap a xs.length c xs) (hl:xs.length<=1100000000000) :
  Calls Tryz.prog 77 #[.slice a xs.length c] w0 λe w'=>∃ a c,e= .returned (.slice a (zJ xs).length c)/\Hp No w0 w' [cQ 9 eS a (zJ xs).length c (zJ xs)]:=by
 have hcap:=hs.cap;refine enter Tryz.func77 rfl 28 Tryz.ntmps77 rfl<|sZ rfl<|sZ rfl<|seqJ λ_ I _ _=>sZ rfl<|blockJ λ_ _ _ _ J=>ay (α:=Nat × (List ByteArray) × (Option Addr) × Nat × Nat) (λx=>[(0,.slice a xs.length c),(3,.slice x.2.2.1 x.2.2.2.2 x.2.2.2.1),(4,vN x.1)]) (λx K=>Hp No w0 K [cQ 9 eS x.2.2.1 x.2.2.2.2 x.2.2.2.1 x.2.1]/\x.1<=xs.length/\x.2.2.2.2=x.2.1.length/\x.2.1=zJ (xs.take x.1)) (λx=>xs.length-x.1) (0,[],none,0,0) ⟨rfl,rfl,rfl,trivial⟩ ?_ ?_
 .refine ⟨(((Hp.start No w0).nilQ 9 eS).pick [0] (by decide)),?_⟩;(try dsimp only);exact ⟨Nat.zero_le _,rfl,rfl⟩
 .rintro W ⟨i,ns,aq,cq,m⟩ X ⟨A,⟨hi,hm,hns⟩⟩;(try dsimp only at hi hm hns);intro Y C Z L;dsimp only at A ⊢;have hnl:=O8 xs i;rw [← hns] at hnl;refine seqJ λ_ M _ N=>sZ rfl<|cnd (p:=i<xs.length) rfl (λO=>?_) (λO=>?_)
  .refine skip<|M<|seqJ λ_ D _ _=>blockJ λ_ G _ _ _=>sj λ_ R=>qR 6 (.f (hs.e A) 1 (i:=i) (by omega) rfl .z) rfl rfl<|cl T.cf134 (L9 ns aq m cq (el xs i).2 _ hm (A.srQ 0 rfl)) rfl λ_ _ ⟨er,rfl⟩=>⟨_,er,?_⟩;refine qt (aV rfl)<|nl<|R<|cnd (p:=¬ ((el xs i).2 ∈ ns)) rfl (λB=>?_) (λB=>?_)
   .refine region<|qR 6 (.f (hs.e A) 1 (i:=i) (by omega) rfl .z) rfl rfl<|st_e<|Ebs (cs:=[.string ((el xs i).2)]) (e:=9) A (λ_=>by kernel_rfl) λ_ _ H _=>st_e<|EapQ H 1 T.sl50 rfl rfl rfl (H.lst (E:=eS) 0 rfl ((el xs i).2) rfl) (by omega) rfl rfl λa41 U _ V=>qt asg<|nl<|G<|D<|rL (.a1 (by omega) .z) rfl rfl<|C _ ((i+1),(ns++[(el xs i).2]),a41,U,(m+1)) _ ⟨rfl,rfl,rfl,trivial⟩ ⟨(V.pick [1] (by decide)),?_⟩ ?_
    ·(try dsimp only);exact ⟨by omega,by first | exact hm | (rw [List.length_append,hm];rfl),by rw [ou ‹_›,← hns];unfold fH;first | rw [if_neg B] | rw [if_pos (Decidable.of_not_not B)]⟩
    ·(try dsimp only);omega
   .refine skip<|G<|D<|rL (.a1 (by omega) .z) rfl rfl<|C _ ((i+1),ns,aq,cq,m) _ ⟨rfl,rfl,rfl,trivial⟩ ⟨(A.pick [0] (by decide)),?_⟩ ?_
    ·(try dsimp only);exact ⟨by omega,by first | exact hm | (rw [List.length_append,hm];rfl),by rw [ou ‹_›,← hns];unfold fH;first | rw [if_neg B] | rw [if_pos (Decidable.of_not_not B)]⟩
    ·(try dsimp only);omega
  .refine exit<|N<|L _ _ _<|J<|I<|sZ rfl<|ret<|leave1 (v:=.slice aq m cq) rfl rfl<|?_;have e:ns=zJ xs:=by rw [hns,List.take_of_length_le (by omega)]
   subst hm;subst e;exact ⟨_,_,rfl,(A.pick [0] (by decide))⟩
end Go.Proofs.YtljfgmedbjlkaaaGreat
