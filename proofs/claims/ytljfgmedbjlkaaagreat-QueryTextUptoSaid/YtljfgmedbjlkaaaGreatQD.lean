/- Plain law of a printed term: its size; when there is none. -/
import Derived.Test.YtljfgmedbjlkaaaGreatTQ
import Derived.Test.YtljfgmedbjlkaaaGreatQA
import Derived.Test.YtljfgmedbjlkaaaGreatV3
import Derived.Test.YtljfgmedbjlkaaaGreatProg
import Derived.Test.YtljfgmedbjlkaaaGreatQC
import Derived.Test.YtljfgmedbjlkaaaGreatQB
namespace Go.Proofs.YtljfgmedbjlkaaaGreat
open Go.RowKit Go.Eng Go.QP
theorem T.cf110:CF Tryz.prog 110:=λ_ _=>by kernel_rfl
theorem T.sl120:SL Tryz.prog 120 5 1 1 (.int .u8 ((0:Nat):Int)):=aY Tryz.underlying120 (by kernel_rfl) rfl (by decide)
theorem T.sz120:SZ Tryz.prog 120 1:=λ_=>by kernel_rfl
theorem jZ (S:Nat->Prop) (bb m c:Nat) (p a:Option Addr) (xs:List Nat) (x:Nat) (w0:World) (H0:Hp S w0 w0 [cB bb 122 [.pointer p,.slice a m c],cQ 5 eY a m c xs]) (hp:p=none\/p=some ⟨bb,0,none⟩) (hm:m+1<=1099511627776) :
  Calls Tryz.prog 58 #[.pointer (some ⟨bb,0,none⟩),.int .u8 ((x:Nat):Int)] w0 λe w'=>∃ a' c',e= .returned .nilIface/\Hp S w0 w' [cB bb 122 [.pointer (some ⟨bb,0,none⟩),.slice a' (m+1) c'],cQ 5 eY a' (m+1) c' (xs++[x])]:=by
 refine enter Tryz.func58 rfl 17 Tryz.ntmps58 rfl<|sZ rfl<|sj λ_ D=>qt mv<|cl T.cf110 (BO bb p _ _ hp (H0.at 0 rfl)) rfl λ_ _ ⟨er,E⟩=>⟨_,er,?_⟩;have A:=H0.call 0 rfl E;exact nl<|D<|sj λ_ G=>qt mv<|qt mv<|qt (bn rfl)<|qR 3 (.b A 0 1 rfl .z) rfl rfl<|st_e<|Ebs (cs:=[.int .u8 ((x:Nat):Int)]) (e:=5) A (λ_=>by kernel_rfl) λ_ _ B _=>st_e<|EapQ (B.toQ eY 0 [x] rfl rfl (Nat.le_of_ble_eq_true rfl)) 2 T.sl120 rfl rfl rfl ((B.toQ eY 0 [x] rfl rfl (Nat.le_of_ble_eq_true rfl)).srQ 0 rfl) (by omega) rfl rfl λa12 C _ H=>qt (bn rfl)<|qZ 1 rfl<|st_s<|Est (v:=.slice a12 (m+1) C) H 1 T.sz120 rfl rfl rfl rfl rfl rfl λ_ I=>nl<|G<|sZ rfl<|ret<|leave1 (v:=.nilIface) rfl rfl<|⟨a12,C,rfl,(I.pick [1,2] (by decide))⟩
theorem wu (S:Nat->Prop) (bb m c:Nat) (p a:Option Addr) (xs:List Nat) (s:ByteArray) (w0:World) (H0:Hp S w0 w0 [cB bb 122 [.pointer p,.slice a m c],cQ 5 eY a m c xs]) (hp:p=none\/p=some ⟨bb,0,none⟩) (hm:m+s.size<=1099511627776) :
  Calls Tryz.prog 56 #[.pointer (some ⟨bb,0,none⟩),.string s] w0 λe w'=>∃ a' c',e= .returned (.tuple #[.int .i64 (s.size:Int),.nilIface])/\Hp S w0 w' [cB bb 122 [.pointer (some ⟨bb,0,none⟩),.slice a' (m+s.size) c'],cQ 5 eY a' (m+s.size) c' (xs++bl s)]:=by
 refine enter Tryz.func56 rfl 19 Tryz.ntmps56 rfl<|sZ rfl<|sj λ_ C=>qt mv<|cl T.cf110 (BO bb p _ _ hp (H0.at 0 rfl)) rfl λ_ _ ⟨er,D⟩=>⟨_,er,?_⟩;have A:=H0.call 0 rfl D;refine nl<|C<|sj λ_ E=>qt mv<|qt mv<|qt (bn rfl)<|qR 3 (.b A 0 1 rfl .z) rfl rfl<|st_e<|EapS A 1 T.sl120 Tryz.underlying9 rfl rfl rfl (by omega) rfl λa8 B _ G=>qt (bn rfl)<|qZ 1 rfl<|st_s<|Est (v:=.slice a8 (m+s.size) B) G 0 T.sz120 rfl rfl rfl rfl rfl rfl λ_ H=>nl<|E<|sZ rfl<|ret<|leave2 (v:=vN s.size) (v':=.nilIface) rfl rfl rfl ?_;exact ⟨a8,B,rfl,(H.pick [0,1] (by decide))⟩
theorem T.zv122:ZV Tryz.prog 122 (.agg #[.pointer none,.slice none 0 0]):=λ_=>by kernel_rfl
theorem T.cf58:CF Tryz.prog 58:=λ_ _=>by kernel_rfl
theorem T.cf56:CF Tryz.prog 56:=λ_ _=>by kernel_rfl
theorem T.cf59:CF Tryz.prog 59:=λ_ _=>by kernel_rfl
theorem Iu (b m c:Nat) (p a:Option Addr) (xs:List Nat) (S:Nat->Prop) (w0:World) (H:Hp S w0 w0 [cB b 122 [.pointer p,.slice a m c],cQ 5 eY a m c xs]) (hm:0<m) (hm2:m<=1099511627776) (hx:∀ x ∈ xs,x<256) (hS:∀ z,kh a c z->S z) :
  Calls Tryz.prog 59 #[.pointer (some ⟨b,0,none⟩)] w0 λe w'=>e= .returned (.string (sN xs))/\Hp S w0 w' [cB b 122 [.pointer p,.slice a m c]]:=
 (Kf b m c p a xs S w0 H hm hm2 hx).mono λe w' ⟨he,K⟩=>⟨he,⟨⟨K.fr.os,K.fr.tape,K.fr.output,K.fr.size,λi hi hn=>K.fr.block i hi λh=>hn (h.elim id (hS i))⟩,K.says,λc hc b hb=>⟨(K.own c hc b hb).1,(K.own c hc b hb).2.imp (λh=>h.elim id (hS b)) id⟩,K.apart⟩⟩
theorem zm (s:ByteArray) (w0:World) (hs:s.size<=68719476736) :
  Calls Tryz.prog 113 #[.string s] w0 λe w'=>∃ t,e= .returned (.string t)/\bl t=iI (bl s)/\Ext w0 w':=by
 refine enter Tryz.func113 rfl 55 Tryz.ntmps113 rfl<|sZ rfl<|sj λ_ na=>st_e<|Eal (Hp.start No w0) T.zv122 λA oa pa _=>nl<|na<|sj λ_ qa=>?_;have U:Hp No w0 oa ([cB A 122 [.pointer none,.slice none 0 0],cQ 5 eY none 0 0 ([])]++[]):=((pa.nilQ 5 eY).pick [1,0] (by decide));refine cl T.cf58 (jZ _ A _ _ none _ _ 34 _ U.startL (.inl rfl) (by omega)) rfl λ_ _ ⟨a9,ra,er,sa⟩=>⟨_,er,?_⟩;have ta:=U.callL sa;refine nl<|qa<|seqJ λ_ ua _ _=>sj λ_ va=>qt mv<|st_e<|EcvB ta Tryz.underlying9 Tryz.underlying120 Tryz.underlying5 rfl (by unfold maxLen;omega) λC D _ wa _=>qZ 2 rfl<|nl<|va<|blockJ λ_ _ _ _ xa=>ay (α:=Nat × (Option Addr) × Nat × Nat × (List Nat)) (λx=>[(3,.pointer (some ⟨A,0,none⟩)),(8,.slice (some ⟨C,0,none⟩) s.size D),(9,vN s.size),(10,vN x.1)]) (λx ya=>Hp No w0 ya [cB A 122 [.pointer (some ⟨A,0,none⟩),.slice x.2.1 x.2.2.1 x.2.2.2.1],cQ 5 eY x.2.1 x.2.2.1 x.2.2.2.1 x.2.2.2.2,cK C D (bl s)]/\QI s x.1 x.2.2.1 x.2.2.2.2) (λx=>s.size-x.1) (0,a9,(0+1),ra,([]++[34])) ⟨rfl,rfl,rfl,rfl,trivial⟩ ?_ ?_
 .refine ⟨(wa.pick [1,2,0] (by decide)),?_⟩;(try dsimp only);exact ⟨Nat.zero_le _,by omega,by simp⟩
 .rintro tb ⟨i,a2,m2,B,ys⟩ L ⟨E,hq⟩;(try dsimp only at hq);intro ub H vb za;dsimp only at E ⊢;have hi:=hq.1;have hm2:=hq.2.1;have hch:=Hl s i;refine sZ rfl<|seqJ λ_ Aa _ Ba=>cnd (p:=i<s.size) rfl (λG=>?_) (λG=>?_)
  .refine skip<|Aa<|seqJ λ_ I _ _=>blockJ λ_ J _ _ _=>sL (.e (cK.srm (E.at 2 rfl) (bN s).symm) (i:=i) (by omega) .z) rfl rfl<|blockJ λ_ K _ _ _=>sj λ_ V=>qZ 2 rfl<|st_if (p:=(el (bl s) i)=34) (ai rfl) (λM=>?_) (λM=>?_)
   .refine qZ 4 rfl<|nl<|V<|cndT rfl<|sj λ_ Ca=>?_;have W:Hp No w0 L ([cB A 122 [.pointer (some ⟨A,0,none⟩),.slice a2 m2 B],cQ 5 eY a2 m2 B ys]++[cK C D (bl s)]):=(E.pick [0,1,2] (by decide));refine cl T.cf58 (jZ _ A _ _ (some ⟨A,0,none⟩) _ _ 92 _ W.startL (.inr rfl) (by omega)) rfl λ_ Da ⟨a64,X,er,Ea⟩=>⟨_,er,?_⟩;have Fa:=W.callL Ea;refine nl<|Ca<|region<|qt mv<|?_;have Y:Hp No w0 Da ([cB A 122 [.pointer (some ⟨A,0,none⟩),.slice a64 (m2+1) X],cQ 5 eY a64 (m2+1) X (ys++[92])]++[cK C D (bl s)]):=(Fa.pick [0,1,2] (by decide));refine cl T.cf58 (jZ _ A _ _ (some ⟨A,0,none⟩) _ _ (el (bl s) i) _ Y.startL (.inr rfl) (by omega)) rfl λ_ _ ⟨a70,Ga,er,Ha⟩=>⟨_,er,?_⟩;have Ia:=Y.callL Ha;refine nl<|K<|J<|I<|rL (.a1 (by omega) .z) rfl rfl<|H _ ((i+1),a70,((m2+1)+1),Ga,((ys++[92])++[el (bl s) i])) _ ⟨rfl,rfl,rfl,rfl,trivial⟩ ⟨(Ia.pick [0,1,2] (by decide)),?_⟩ ?_
    ·(try dsimp only);exact hq.step G (k:=2) (by decide) (by rw [GG (.inl M),List.append_assoc];rfl)
    ·(try dsimp only);omega
   .refine qZ 4 rfl<|nl<|V<|cnd (p:=(el (bl s) i)=92) rfl (λN=>?_) (λN=>?_)
    .refine sj λ_ Ja=>?_;have Z:Hp No w0 L ([cB A 122 [.pointer (some ⟨A,0,none⟩),.slice a2 m2 B],cQ 5 eY a2 m2 B ys]++[cK C D (bl s)]):=(E.pick [0,1,2] (by decide));refine cl T.cf58 (jZ _ A _ _ (some ⟨A,0,none⟩) _ _ 92 _ Z.startL (.inr rfl) (by omega)) rfl λ_ Ka ⟨a79,aa,er,La⟩=>⟨_,er,?_⟩;have Ma:=Z.callL La;refine nl<|Ja<|region<|qt mv<|?_;have ba:Hp No w0 Ka ([cB A 122 [.pointer (some ⟨A,0,none⟩),.slice a79 (m2+1) aa],cQ 5 eY a79 (m2+1) aa (ys++[92])]++[cK C D (bl s)]):=(Ma.pick [0,1,2] (by decide));refine cl T.cf58 (jZ _ A _ _ (some ⟨A,0,none⟩) _ _ (el (bl s) i) _ ba.startL (.inr rfl) (by omega)) rfl λ_ _ ⟨a85,Na,er,Oa⟩=>⟨_,er,?_⟩;have Pa:=ba.callL Oa;refine nl<|K<|J<|I<|rL (.a1 (by omega) .z) rfl rfl<|H _ ((i+1),a85,((m2+1)+1),Na,((ys++[92])++[el (bl s) i])) _ ⟨rfl,rfl,rfl,rfl,trivial⟩ ⟨(Pa.pick [0,1,2] (by decide)),?_⟩ ?_
     ·(try dsimp only);exact hq.step G (k:=2) (by decide) (by rw [GG (.inr N),List.append_assoc];rfl)
     ·(try dsimp only);omega
    .refine sZ rfl<|cnd (p:=(el (bl s) i)=10) rfl (λO=>?_) (λO=>?_)
     .refine region<|?_;have ca:Hp No w0 L ([cB A 122 [.pointer (some ⟨A,0,none⟩),.slice a2 m2 B],cQ 5 eY a2 m2 B ys]++[cK C D (bl s)]):=(E.pick [0,1,2] (by decide));refine cl T.cf56 (wu _ A _ _ (some ⟨A,0,none⟩) _ _ (ByteArray.mk #[92,110]) _ ca.startL (.inr rfl) (by show _+2<=_;omega)) rfl λ_ _ ⟨a92,Qa,er,Ra⟩=>⟨_,er,?_⟩;have Sa:=ca.callL Ra;refine nl<|K<|J<|I<|rL (.a1 (by omega) .z) rfl rfl<|H _ ((i+1),a92,(m2+(ByteArray.mk #[92,110]).size),Qa,(ys++bl (ByteArray.mk #[92,110]))) _ ⟨rfl,rfl,rfl,rfl,trivial⟩ ⟨(Sa.pick [0,1,2] (by decide)),?_⟩ ?_
      ·(try dsimp only);exact hq.step G (by decide) (by rw [kJ O];rfl)
      ·(try dsimp only);omega
     .refine sZ rfl<|cnd (p:=(el (bl s) i)=9) rfl (λR=>?_) (λR=>?_)
      .refine region<|?_;have da:Hp No w0 L ([cB A 122 [.pointer (some ⟨A,0,none⟩),.slice a2 m2 B],cQ 5 eY a2 m2 B ys]++[cK C D (bl s)]):=(E.pick [0,1,2] (by decide));refine cl T.cf56 (wu _ A _ _ (some ⟨A,0,none⟩) _ _ (ByteArray.mk #[92,116]) _ da.startL (.inr rfl) (by show _+2<=_;omega)) rfl λ_ _ ⟨a99,Ta,er,Ua⟩=>⟨_,er,?_⟩;have Va:=da.callL Ua;refine nl<|K<|J<|I<|rL (.a1 (by omega) .z) rfl rfl<|H _ ((i+1),a99,(m2+(ByteArray.mk #[92,116]).size),Ta,(ys++bl (ByteArray.mk #[92,116]))) _ ⟨rfl,rfl,rfl,rfl,trivial⟩ ⟨(Va.pick [0,1,2] (by decide)),?_⟩ ?_
       ·(try dsimp only);exact hq.step G (by decide) (by rw [kZ R];rfl)
       ·(try dsimp only);omega
      .refine sj λ_ ea=>qZ 2 rfl<|st_if (p:=32<=(el (bl s) i)) (ai rfl) (λfa=>?_) (λfa=>?_)
       .refine qZ 4 rfl<|nl<|ea<|cnd (p:=(el (bl s) i)<=126) rfl (λga=>?_) (λga=>?_)
        .refine region<|qt mv<|?_;have ha:Hp No w0 L ([cB A 122 [.pointer (some ⟨A,0,none⟩),.slice a2 m2 B],cQ 5 eY a2 m2 B ys]++[cK C D (bl s)]):=(E.pick [0,1,2] (by decide));refine cl T.cf58 (jZ _ A _ _ (some ⟨A,0,none⟩) _ _ (el (bl s) i) _ ha.startL (.inr rfl) (by omega)) rfl λ_ _ ⟨a109,Wa,er,Xa⟩=>⟨_,er,?_⟩;have Ya:=ha.callL Xa;refine nl<|K<|J<|I<|rL (.a1 (by omega) .z) rfl rfl<|H _ ((i+1),a109,(m2+1),Wa,(ys++[el (bl s) i])) _ ⟨rfl,rfl,rfl,rfl,trivial⟩ ⟨(Ya.pick [0,1,2] (by decide)),?_⟩ ?_
         ·(try dsimp only);exact hq.step G (k:=1) (by decide) (by rw [kz M N fa ga])
         ·(try dsimp only);omega
        .refine rgS [10] (by kernel_rfl) λZa bb _=>?_;have cb:=E.ext bb;refine d_q rfl rfl (λ_=>mv)<|d_q rfl rfl (λ_=>F4 (s:=4) rfl rfl (by decide))<|d_q rfl rfl (λ_=>bg (s:=bQ) (i:=(el (bl s) i / 2 ^ 4)) Tryz.underlying9 rfl rfl (by show _<16;omega))<|d_q rfl rfl (λ_=>qA Tryz.underlying5 Tryz.underlying9 rfl (j8 (by omega)))<|d_q rfl rfl (λ_=>bM rfl rfl (by rw [eH];exact (show 3<=9223372036854775807 by decide)))<|d_q rfl rfl (λ_=>mv)<|d_q rfl rfl (λ_=>GY rfl rfl hch)<|d_q rfl rfl (λ_=>bg (s:=bQ) (i:=(el (bl s) i % 16)) Tryz.underlying9 rfl rfl (by show _<16;omega))<|d_q rfl rfl (λ_=>qA Tryz.underlying5 Tryz.underlying9 rfl (j8 (by omega)))<|d_q rfl rfl (λ_=>bM rfl rfl (by rw [ByteArray.size_append,eH,eH];exact (show 4<=9223372036854775807 by decide)))<|?_;have ia:Hp No w0 Za ([cB A 122 [.pointer (some ⟨A,0,none⟩),.slice a2 m2 B],cQ 5 eY a2 m2 B ys]++[cK C D (bl s)]):=(cb.pick [0,1,2] (by decide));refine d_e (by decide)<|d_c' rfl rfl (aT _ T.cf56 rfl rfl) (wu _ A _ _ (some ⟨A,0,none⟩) _ _ (((ByteArray.mk #[92,120])++(sN [(ch bQ (el (bl s) i / 2 ^ 4))]))++(sN [(ch bQ (el (bl s) i % 16))])) _ ia.startL (.inr rfl) (by rw [ByteArray.size_append,ByteArray.size_append,eH,eH];show _+(2+1+1)<=_;omega)) λ_ _ ⟨a120,db,er,eb⟩=>⟨_,er,?_⟩;have fb:=ia.callL eb;refine ⟨bv (by kernel_rfl),?_⟩;refine d_done<|K<|J<|I<|rL (.a1 (by omega) .z) rfl rfl<|H _ ((i+1),a120,(m2+(((ByteArray.mk #[92,120])++(sN [(ch bQ (el (bl s) i / 2 ^ 4))]))++(sN [(ch bQ (el (bl s) i % 16))])).size),db,(ys++bl (((ByteArray.mk #[92,120])++(sN [(ch bQ (el (bl s) i / 2 ^ 4))]))++(sN [(ch bQ (el (bl s) i % 16))])))) _ ⟨rfl,rfl,rfl,rfl,trivial⟩ ⟨(fb.pick [0,1,2] (by decide)),?_⟩ ?_
         ·(try dsimp only);exact hq.step G B6 (by rw [BV hch _ rfl,jQ M N O R (by omega)])
         ·(try dsimp only);omega
       .refine qZ 4 rfl<|nl<|ea<|cndF rfl<|rgS [10] (by kernel_rfl) λgb hb _=>?_;have ib:=E.ext hb;refine d_q rfl rfl (λ_=>mv)<|d_q rfl rfl (λ_=>F4 (s:=4) rfl rfl (by decide))<|d_q rfl rfl (λ_=>bg (s:=bQ) (i:=(el (bl s) i / 2 ^ 4)) Tryz.underlying9 rfl rfl (by show _<16;omega))<|d_q rfl rfl (λ_=>qA Tryz.underlying5 Tryz.underlying9 rfl (j8 (by omega)))<|d_q rfl rfl (λ_=>bM rfl rfl (by rw [eH];exact (show 3<=9223372036854775807 by decide)))<|d_q rfl rfl (λ_=>mv)<|d_q rfl rfl (λ_=>GY rfl rfl hch)<|d_q rfl rfl (λ_=>bg (s:=bQ) (i:=(el (bl s) i % 16)) Tryz.underlying9 rfl rfl (by show _<16;omega))<|d_q rfl rfl (λ_=>qA Tryz.underlying5 Tryz.underlying9 rfl (j8 (by omega)))<|d_q rfl rfl (λ_=>bM rfl rfl (by rw [ByteArray.size_append,eH,eH];exact (show 4<=9223372036854775807 by decide)))<|?_;have ja:Hp No w0 gb ([cB A 122 [.pointer (some ⟨A,0,none⟩),.slice a2 m2 B],cQ 5 eY a2 m2 B ys]++[cK C D (bl s)]):=(ib.pick [0,1,2] (by decide));refine d_e (by decide)<|d_c' rfl rfl (aT _ T.cf56 rfl rfl) (wu _ A _ _ (some ⟨A,0,none⟩) _ _ (((ByteArray.mk #[92,120])++(sN [(ch bQ (el (bl s) i / 2 ^ 4))]))++(sN [(ch bQ (el (bl s) i % 16))])) _ ja.startL (.inr rfl) (by rw [ByteArray.size_append,ByteArray.size_append,eH,eH];show _+(2+1+1)<=_;omega)) λ_ _ ⟨a131,jb,er,kb⟩=>⟨_,er,?_⟩;have lb:=ja.callL kb;refine ⟨bv (by kernel_rfl),?_⟩;refine d_done<|K<|J<|I<|rL (.a1 (by omega) .z) rfl rfl<|H _ ((i+1),a131,(m2+(((ByteArray.mk #[92,120])++(sN [(ch bQ (el (bl s) i / 2 ^ 4))]))++(sN [(ch bQ (el (bl s) i % 16))])).size),jb,(ys++bl (((ByteArray.mk #[92,120])++(sN [(ch bQ (el (bl s) i / 2 ^ 4))]))++(sN [(ch bQ (el (bl s) i % 16))])))) _ ⟨rfl,rfl,rfl,rfl,trivial⟩ ⟨(lb.pick [0,1,2] (by decide)),?_⟩ ?_
        ·(try dsimp only);exact hq.step G B6 (by rw [BV hch _ rfl,jQ M N O R (by omega)])
        ·(try dsimp only);omega
  .refine exit<|Ba<|za _ _ _<|xa<|ua<|sj λ_ mb=>?_;have ka:Hp No w0 L ([cB A 122 [.pointer (some ⟨A,0,none⟩),.slice a2 m2 B],cQ 5 eY a2 m2 B ys]++[cK C D (bl s)]):=(E.pick [0,1,2] (by decide));refine cl T.cf58 (jZ _ A _ _ (some ⟨A,0,none⟩) _ _ 34 _ ka.startL (.inr rfl) (by omega)) rfl λ_ nb ⟨a139,la,er,ob⟩=>⟨_,er,?_⟩;have pb:=ka.callL ob;refine nl<|mb<|sj λ_ qb=>?_;have hqq:(ys++[34])=iI (bl s):=hq.fin G;have ma:Hp No w0 nb ([cB A 122 [.pointer (some ⟨A,0,none⟩),.slice a139 (m2+1) la],cQ 5 eY a139 (m2+1) la (ys++[34])]++[cK C D (bl s)]):=(pb.pick [0,1,2] (by decide));refine cl T.cf59 (Iu _ _ _ _ _ _ _ _ ma.startL (by omega) (by omega) (by rw [hqq];exact sG s) (λz hz=>⟨_,List.mem_cons_of_mem _ (List.mem_cons_self ..),hz⟩)) rfl λ_ _ ⟨er,rb⟩=>⟨_,er,?_⟩;have sb:=ma.callL rb;exact qt asg<|nl<|qb<|ret<|leave1 (v:=.string (sN (ys++[34]))) rfl rfl<|⟨_,rfl,by rw [hqq,BU (sG s)],sb.x⟩
theorem T.na4:NA Tryz.prog 4:=λ_=>by kernel_rfl
theorem T.na9:NA Tryz.prog 9:=λ_=>by kernel_rfl
theorem T.cf111:CF Tryz.prog 111:=λ_ _=>by kernel_rfl
theorem T.cf112:CF Tryz.prog 112:=λ_ _=>by kernel_rfl
theorem T.cf113:CF Tryz.prog 113:=λ_ _=>by kernel_rfl
def TermR (v:Bool) (s t:ByteArray) (k:Nat):Prop:=
 (v=true/\kind s=2/\k=0/\t=s)\/((v=true/\¬ kind s=2\/¬ v=true/\1024<s.size)/\k=2/\t=ByteArray.mk #[])\/(¬ v=true/\s.size<=1024/\jl s/\k=0/\t=s)\/(¬ v=true/\s.size<=1024/\¬ jl s/\k=0/\bl t=iI (bl s))
theorem Ph (v:Bool) (s:ByteArray) (w0:World) (hs:s.size<=68719476736) :
  Calls Tryz.prog 57 #[.agg #[vB (v=true),.string s]] w0 λe w'=>∃ t k,e= .returned (.tuple #[.string t,vN k])/\TermR v s t k/\Ext w0 w':=by
 refine enter Tryz.func57 rfl 32 Tryz.ntmps57 rfl<|sj λ_ M=>st_e<|Ebx (v:=.agg #[vB (v=true),.string s]) (Hp.start No w0) rfl λ_ _ A _=>qZ 2 rfl<|nl<|M<|seqJ λ_ E B _=>blockJ λ_ G C _ _=>sj λ_ H=>qR 2 (.b A 0 0 rfl .z) rfl rfl<|st_if (p:=v=true) (ai rfl) (λD=>?_) (λD=>?_)
 .refine qR 2 (.b A 0 1 rfl .z) rfl rfl<|st_gq 2 7 rfl rfl (by decide)<|cl T.cf111 (xN s _ (by omega)) rfl λ_ _ ⟨er,rfl⟩=>⟨_,er,?_⟩;refine qZ 2 rfl<|nl<|H<|cnd (p:=kind s=2) rfl (λI=>?_) (λI=>?_)
  .refine sL (.b A 0 1 rfl .z) rfl rfl<|ret<|C<|B<|leave2 (v:=.string s) (v':=vN 0) rfl rfl rfl ?_;exact ⟨_,_,rfl,by unfold TermR;first | exact absurd I D | exact .inl ⟨by assumption,by assumption,rfl,rfl⟩ | exact .inr (.inl ⟨by first | exact .inl ⟨by assumption,by assumption⟩ | exact .inr ⟨by assumption,by omega⟩,rfl,rfl⟩) | exact .inr (.inr (.inl ⟨by assumption,by omega,by assumption,rfl,rfl⟩)) | exact .inr (.inr (.inr ⟨by assumption,by omega,by assumption,rfl,by assumption⟩)),A.x⟩
  .refine sj λ_ J=>qR 2 (.b A 0 0 rfl .z) rfl rfl<|st_if (p:=v=true) (ai rfl) (λN=>?_) (λN=>?_)
   .refine qZ 6 rfl<|nl<|J<|cndT rfl<|sZ rfl<|ret<|C<|B<|leave2 (v:=.string (ByteArray.mk #[])) (v':=vN 2) rfl rfl rfl ?_;exact ⟨_,_,rfl,by unfold TermR;first | exact .inl ⟨by assumption,by assumption,rfl,rfl⟩ | exact .inr (.inl ⟨by first | exact .inl ⟨by assumption,by assumption⟩ | exact .inr ⟨by assumption,by omega⟩,rfl,rfl⟩) | exact .inr (.inr (.inl ⟨by assumption,by omega,by assumption,rfl,rfl⟩)) | exact .inr (.inr (.inr ⟨by assumption,by omega,by assumption,rfl,by assumption⟩)),A.x⟩
   .refine qR 6 (.b A 0 1 rfl .z) rfl rfl<|nl<|J<|cnd (p:=1024<s.size) rfl (λO=>?_) (λO=>?_)
    .refine sZ rfl<|ret<|C<|B<|leave2 (v:=.string (ByteArray.mk #[])) (v':=vN 2) rfl rfl rfl ?_;exact ⟨_,_,rfl,by unfold TermR;first | exact .inl ⟨by assumption,by assumption,rfl,rfl⟩ | exact .inr (.inl ⟨by first | exact .inl ⟨by assumption,by assumption⟩ | exact .inr ⟨by assumption,by omega⟩,rfl,rfl⟩) | exact .inr (.inr (.inl ⟨by assumption,by omega,by assumption,rfl,rfl⟩)) | exact .inr (.inr (.inr ⟨by assumption,by omega,by assumption,rfl,by assumption⟩)),A.x⟩
    .refine sj λ_ R=>qR 2 (.b A 0 1 rfl .z) rfl rfl<|cl T.cf112 (C6 s _ (by omega)) rfl λ_ _ ⟨er,rfl⟩=>⟨_,er,?_⟩;refine qt asg<|nl<|R<|cnd (p:=jl s) rfl (λU=>?_) (λU=>?_)
     .refine sL (.b A 0 1 rfl .z) rfl rfl<|ret<|C<|B<|leave2 (v:=.string s) (v':=vN 0) rfl rfl rfl ?_;exact ⟨_,_,rfl,by unfold TermR;first | exact .inl ⟨by assumption,by assumption,rfl,rfl⟩ | exact .inr (.inl ⟨by first | exact .inl ⟨by assumption,by assumption⟩ | exact .inr ⟨by assumption,by omega⟩,rfl,rfl⟩) | exact .inr (.inr (.inl ⟨by assumption,by omega,by assumption,rfl,rfl⟩)) | exact .inr (.inr (.inr ⟨by assumption,by omega,by assumption,rfl,by assumption⟩)),A.x⟩
     .refine skip<|G<|E<|sj λ_ V=>qR 2 (.b A 0 1 rfl .z) rfl rfl<|cl T.cf113 (zm s _ (by omega)) rfl λ_ _ ⟨W,er,hq32,X⟩=>⟨_,er,?_⟩;have Y:=A.ext X;refine qZ 2 rfl<|nl<|V<|ret<|leave2 (v:=.string W) (v':=vN 0) rfl rfl rfl ?_;exact ⟨_,_,rfl,by unfold TermR;first | exact .inl ⟨by assumption,by assumption,rfl,rfl⟩ | exact .inr (.inl ⟨by first | exact .inl ⟨by assumption,by assumption⟩ | exact .inr ⟨by assumption,by omega⟩,rfl,rfl⟩) | exact .inr (.inr (.inl ⟨by assumption,by omega,by assumption,rfl,rfl⟩)) | exact .inr (.inr (.inr ⟨by assumption,by omega,by assumption,rfl,by assumption⟩)),Y.x⟩
 .refine qZ 5 rfl<|nl<|H<|cndF rfl<|sj λ_ K=>qR 2 (.b A 0 0 rfl .z) rfl rfl<|st_if (p:=v=true) (ai rfl) (λL=>?_) (λL=>?_)
  .refine qZ 6 rfl<|nl<|K<|cndT rfl<|sZ rfl<|ret<|C<|B<|leave2 (v:=.string (ByteArray.mk #[])) (v':=vN 2) rfl rfl rfl ?_;exact ⟨_,_,rfl,by unfold TermR;first | exact absurd L D | exact .inl ⟨by assumption,by assumption,rfl,rfl⟩ | exact .inr (.inl ⟨by first | exact .inl ⟨by assumption,by assumption⟩ | exact .inr ⟨by assumption,by omega⟩,rfl,rfl⟩) | exact .inr (.inr (.inl ⟨by assumption,by omega,by assumption,rfl,rfl⟩)) | exact .inr (.inr (.inr ⟨by assumption,by omega,by assumption,rfl,by assumption⟩)),A.x⟩
  .refine qR 6 (.b A 0 1 rfl .z) rfl rfl<|nl<|K<|cnd (p:=1024<s.size) rfl (λZ=>?_) (λZ=>?_)
   .refine sZ rfl<|ret<|C<|B<|leave2 (v:=.string (ByteArray.mk #[])) (v':=vN 2) rfl rfl rfl ?_;exact ⟨_,_,rfl,by unfold TermR;first | exact .inl ⟨by assumption,by assumption,rfl,rfl⟩ | exact .inr (.inl ⟨by first | exact .inl ⟨by assumption,by assumption⟩ | exact .inr ⟨by assumption,by omega⟩,rfl,rfl⟩) | exact .inr (.inr (.inl ⟨by assumption,by omega,by assumption,rfl,rfl⟩)) | exact .inr (.inr (.inr ⟨by assumption,by omega,by assumption,rfl,by assumption⟩)),A.x⟩
   .refine sj λ_ aa=>qR 2 (.b A 0 1 rfl .z) rfl rfl<|cl T.cf112 (C6 s _ (by omega)) rfl λ_ _ ⟨er,rfl⟩=>⟨_,er,?_⟩;refine qt asg<|nl<|aa<|cnd (p:=jl s) rfl (λba=>?_) (λba=>?_)
    .refine sL (.b A 0 1 rfl .z) rfl rfl<|ret<|C<|B<|leave2 (v:=.string s) (v':=vN 0) rfl rfl rfl ?_;exact ⟨_,_,rfl,by unfold TermR;first | exact .inl ⟨by assumption,by assumption,rfl,rfl⟩ | exact .inr (.inl ⟨by first | exact .inl ⟨by assumption,by assumption⟩ | exact .inr ⟨by assumption,by omega⟩,rfl,rfl⟩) | exact .inr (.inr (.inl ⟨by assumption,by omega,by assumption,rfl,rfl⟩)) | exact .inr (.inr (.inr ⟨by assumption,by omega,by assumption,rfl,by assumption⟩)),A.x⟩
    .refine skip<|G<|E<|sj λ_ ca=>qR 2 (.b A 0 1 rfl .z) rfl rfl<|cl T.cf113 (zm s _ (by omega)) rfl λ_ _ ⟨da,er,hq47,ea⟩=>⟨_,er,?_⟩;have fa:=A.ext ea;refine qZ 2 rfl<|nl<|ca<|ret<|leave2 (v:=.string da) (v':=vN 0) rfl rfl rfl ?_;exact ⟨_,_,rfl,by unfold TermR;first | exact .inl ⟨by assumption,by assumption,rfl,rfl⟩ | exact .inr (.inl ⟨by first | exact .inl ⟨by assumption,by assumption⟩ | exact .inr ⟨by assumption,by omega⟩,rfl,rfl⟩) | exact .inr (.inr (.inl ⟨by assumption,by omega,by assumption,rfl,rfl⟩)) | exact .inr (.inr (.inr ⟨by assumption,by omega,by assumption,rfl,by assumption⟩)),fa.x⟩
theorem sQ (l:List Nat):(iI l).length<=2+4 * l.length:=by
 unfold iI
 have:(l.flatMap bG).length<=4 * l.length:=by
  induction l with
  | nil=>simp
  | cons x l ih=>have:=Bf x;rw [List.flatMap_cons,List.length_append,List.length_cons];omega
 simp only [List.length_append,List.length_cons,List.length_nil];omega
theorem TermR.len {v:Bool} {s t:ByteArray} {k:Nat} (h:TermR v s t k):t.size<=4098:=by
 rcases h with ⟨_,h,_,rfl⟩ | ⟨_,_,rfl⟩ | ⟨_,_,h,_,rfl⟩ | ⟨_,h1,_,_,h⟩
 .have:=dV (s:=t) (by rw [h];decide);omega
 .exact Nat.zero_le _
 .have:=dV (s:=t) (by rcases h with h | h <;> rw [h] <;> decide);omega
 .rw [← bN,h];have:=sQ (bl s);rw [bN] at this;omega
def yF (v:Bool) (s:ByteArray):Prop:=(v=true/\kind s=2)\/(¬ v=true/\s.size<=1024)
theorem TermR.good {v:Bool} {s t:ByteArray} {k:Nat} (h:TermR v s t k):(k=0/\yF v s)\/(k=2/\¬ yF v s):=by
 unfold yF
 rcases h with ⟨h1,h2,h3,_⟩ | ⟨h1,h2,_⟩ | ⟨h1,h2,_,h3,_⟩ | ⟨h1,h2,_,h3,_⟩
 .exact .inl ⟨h3,.inl ⟨h1,h2⟩⟩
 .refine .inr ⟨h2,λhg=>?_⟩
  rcases h1 with ⟨a,b⟩ | ⟨a,b⟩
  .rcases hg with ⟨_,c⟩ | ⟨c,_⟩
   .exact b c
   .exact c a
  .rcases hg with ⟨c,_⟩ | ⟨_,c⟩
   .exact a c
   .omega
 .exact .inl ⟨h3,.inr ⟨h1,h2⟩⟩
 .exact .inl ⟨h3,.inr ⟨h1,h2⟩⟩
end Go.Proofs.YtljfgmedbjlkaaaGreat
