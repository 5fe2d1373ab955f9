/- A part of the engine: steps over the model. Over any program. -/
import Derived.Test.YtljfgmedbjlkaaaGreatTQ
import Derived.Test.YtljfgmedbjlkaaaGreatQA
import Derived.Test.YtljfgmedbjlkaaaGreatV3
import Derived.Test.YtljfgmedbjlkaaaGreatProg
namespace Go.Proofs.YtljfgmedbjlkaaaGreat
open Go.RowKit Go.Eng Go.QP
theorem T.cf187:CF Tryz.prog 187:=λ_ _=>by kernel_rfl
theorem T.cf263:CF Tryz.prog 263:=λ_ _=>by kernel_rfl
theorem T.cf264:CF Tryz.prog 264:=λ_ _=>by kernel_rfl
theorem xK (c:Nat) (w0:World) :
  Calls Tryz.prog 187 #[.int .u8 (c:Int)] w0 λe w'=>e= .returned (vB (Sm c))/\w0=w':=by
 refine enter Tryz.func187 rfl 9 Tryz.ntmps187 rfl<|sZ rfl<|sj λ_ A=>qZ 2 rfl<|st_if (p:=97<=c) (ai rfl) (λB=>?_) (λB=>?_)
 .exact qZ 4 rfl<|nl<|A<|ret<|leave1 (v:=vB (c<=122)) rfl rfl<|⟨congrArg Ending.returned (dq (q:=Sm c) (by omega)),rfl⟩
 .exact qZ 4 rfl<|nl<|A<|ret<|leave1 (v:=.bool false) rfl rfl<|⟨congrArg Ending.returned (dF (p:=Sm c) (by omega)),rfl⟩
theorem zt (c:Nat) (w0:World) :
  Calls Tryz.prog 263 #[.int .u8 (c:Int)] w0 λe w'=>e= .returned (vB (Gr c))/\w0=w':=by
 refine enter Tryz.func263 rfl 9 Tryz.ntmps263 rfl<|sZ rfl<|sj λ_ A=>qZ 2 rfl<|st_if (p:=65<=c) (ai rfl) (λB=>?_) (λB=>?_)
 .exact qZ 4 rfl<|nl<|A<|ret<|leave1 (v:=vB (c<=90)) rfl rfl<|⟨congrArg Ending.returned (dq (q:=Gr c) (by omega)),rfl⟩
 .exact qZ 4 rfl<|nl<|A<|ret<|leave1 (v:=.bool false) rfl rfl<|⟨congrArg Ending.returned (dF (p:=Gr c) (by omega)),rfl⟩
theorem FC (c:Nat) (w0:World) :
  Calls Tryz.prog 264 #[.int .u8 (c:Int)] w0 λe w'=>e= .returned (vB (Dg c))/\w0=w':=by
 refine enter Tryz.func264 rfl 9 Tryz.ntmps264 rfl<|sZ rfl<|sj λ_ A=>qZ 2 rfl<|st_if (p:=48<=c) (ai rfl) (λB=>?_) (λB=>?_)
 .exact qZ 4 rfl<|nl<|A<|ret<|leave1 (v:=vB (c<=57)) rfl rfl<|⟨congrArg Ending.returned (dq (q:=Dg c) (by omega)),rfl⟩
 .exact qZ 4 rfl<|nl<|A<|ret<|leave1 (v:=.bool false) rfl rfl<|⟨congrArg Ending.returned (dF (p:=Dg c) (by omega)),rfl⟩
theorem K4 (c:Nat) (w0:World) :
  Calls Tryz.prog 122 #[.int .u8 (c:Int)] w0 λe w'=>e= .returned (vB (Lt c))/\w0=w':=by
 refine enter Tryz.func122 rfl 29 Tryz.ntmps122 rfl<|sZ rfl<|sj λ_ A=>qZ 2 rfl<|st_if (p:=97<=c) (ai rfl) (λB=>?_) (λB=>?_)
 .refine qZ 3 rfl<|st_if (p:=c<=122) (ai rfl) (λC=>?_) (λC=>?_)
  .exact qZ 20 rfl<|nl<|A<|ret<|leave1 (v:=.bool true) rfl rfl<|⟨congrArg Ending.returned (dT (p:=Lt c) (by omega)),rfl⟩
  .refine qZ 2 rfl<|st_gq 6 9 rfl rfl (by decide)<|st_if (p:=65<=c) (ai rfl) (λD=>?_) (λD=>?_)
   .refine qZ 4 rfl<|st_if (p:=c<=90) (ai rfl) (λE=>?_) (λE=>?_)
    .exact qZ 12 rfl<|nl<|A<|ret<|leave1 (v:=.bool true) rfl rfl<|⟨congrArg Ending.returned (dT (p:=Lt c) (by omega)),rfl⟩
    .refine qZ 2 rfl<|st_gq 14 17 rfl rfl (by decide)<|st_if (p:=48<=c) (ai rfl) (λG=>?_) (λG=>?_)
     .refine qZ 4 rfl<|st_if (p:=c<=57) (ai rfl) (λH=>?_) (λH=>?_)
      .exact qZ 4 rfl<|nl<|A<|ret<|leave1 (v:=.bool true) rfl rfl<|⟨congrArg Ending.returned (dT (p:=Lt c) (by omega)),rfl⟩
      .exact qZ 4 rfl<|nl<|A<|ret<|leave1 (v:=vB (c=95)) rfl rfl<|⟨congrArg Ending.returned (dq (q:=Lt c) (by omega)),rfl⟩
     .exact qZ 9 rfl<|nl<|A<|ret<|leave1 (v:=vB (c=95)) rfl rfl<|⟨congrArg Ending.returned (dq (q:=Lt c) (by omega)),rfl⟩
   .refine qZ 7 rfl<|st_gq 14 17 rfl rfl (by decide)<|st_if (p:=48<=c) (ai rfl) (λI=>?_) (λI=>?_)
    .refine qZ 4 rfl<|st_if (p:=c<=57) (ai rfl) (λJ=>?_) (λJ=>?_)
     .exact qZ 4 rfl<|nl<|A<|ret<|leave1 (v:=.bool true) rfl rfl<|⟨congrArg Ending.returned (dT (p:=Lt c) (by omega)),rfl⟩
     .exact qZ 4 rfl<|nl<|A<|ret<|leave1 (v:=vB (c=95)) rfl rfl<|⟨congrArg Ending.returned (dq (q:=Lt c) (by omega)),rfl⟩
    .exact qZ 9 rfl<|nl<|A<|ret<|leave1 (v:=vB (c=95)) rfl rfl<|⟨congrArg Ending.returned (dq (q:=Lt c) (by omega)),rfl⟩
 .refine qZ 6 rfl<|st_gq 6 9 rfl rfl (by decide)<|st_if (p:=65<=c) (ai rfl) (λK=>?_) (λK=>?_)
  .refine qZ 4 rfl<|st_if (p:=c<=90) (ai rfl) (λL=>?_) (λL=>?_)
   .exact qZ 12 rfl<|nl<|A<|ret<|leave1 (v:=.bool true) rfl rfl<|⟨congrArg Ending.returned (dT (p:=Lt c) (by omega)),rfl⟩
   .refine qZ 2 rfl<|st_gq 14 17 rfl rfl (by decide)<|st_if (p:=48<=c) (ai rfl) (λM=>?_) (λM=>?_)
    .refine qZ 4 rfl<|st_if (p:=c<=57) (ai rfl) (λN=>?_) (λN=>?_)
     .exact qZ 4 rfl<|nl<|A<|ret<|leave1 (v:=.bool true) rfl rfl<|⟨congrArg Ending.returned (dT (p:=Lt c) (by omega)),rfl⟩
     .exact qZ 4 rfl<|nl<|A<|ret<|leave1 (v:=vB (c=95)) rfl rfl<|⟨congrArg Ending.returned (dq (q:=Lt c) (by omega)),rfl⟩
    .exact qZ 9 rfl<|nl<|A<|ret<|leave1 (v:=vB (c=95)) rfl rfl<|⟨congrArg Ending.returned (dq (q:=Lt c) (by omega)),rfl⟩
  .refine qZ 7 rfl<|st_gq 14 17 rfl rfl (by decide)<|st_if (p:=48<=c) (ai rfl) (λO=>?_) (λO=>?_)
   .refine qZ 4 rfl<|st_if (p:=c<=57) (ai rfl) (λR=>?_) (λR=>?_)
    .exact qZ 4 rfl<|nl<|A<|ret<|leave1 (v:=.bool true) rfl rfl<|⟨congrArg Ending.returned (dT (p:=Lt c) (by omega)),rfl⟩
    .exact qZ 4 rfl<|nl<|A<|ret<|leave1 (v:=vB (c=95)) rfl rfl<|⟨congrArg Ending.returned (dq (q:=Lt c) (by omega)),rfl⟩
   .exact qZ 9 rfl<|nl<|A<|ret<|leave1 (v:=vB (c=95)) rfl rfl<|⟨congrArg Ending.returned (dq (q:=Lt c) (by omega)),rfl⟩
theorem CA (c:Nat) (w0:World) :
  Calls Tryz.prog 262 #[.int .u8 (c:Int)] w0 λe w'=>e= .returned (vB (Lt c))/\w0=w':=by
 refine enter Tryz.func262 rfl 17 Tryz.ntmps262 rfl<|sZ rfl<|sj λ_ A=>qt mv<|cl T.cf187 (xK _ _) rfl λ_ _ ⟨er,rfl⟩=>⟨_,er,?_⟩;refine st_if (p:=Sm c) (ai rfl) (λB=>?_) (λB=>?_)
 .exact qZ 12 rfl<|nl<|A<|ret<|leave1 (v:=.bool true) rfl rfl<|⟨congrArg Ending.returned (dT (p:=Lt c) (by omega)),rfl⟩
 .refine qZ 1 rfl<|st_gq 2 5 rfl rfl (by decide)<|cl T.cf263 (zt _ _) rfl λ_ _ ⟨er,rfl⟩=>⟨_,er,?_⟩;refine qt (LV rfl)<|st_if (p:=Gr c) (ai rfl) (λC=>?_) (λC=>?_)
  .exact qZ 8 rfl<|nl<|A<|ret<|leave1 (v:=.bool true) rfl rfl<|⟨congrArg Ending.returned (dT (p:=Lt c) (by omega)),rfl⟩
  .refine qZ 1 rfl<|st_gq 6 9 rfl rfl (by decide)<|cl T.cf264 (FC _ _) rfl λ_ _ ⟨er,rfl⟩=>⟨_,er,?_⟩;refine qt (LV rfl)<|st_if (p:=Dg c) (ai rfl) (λD=>?_) (λD=>?_)
   .exact qZ 4 rfl<|nl<|A<|ret<|leave1 (v:=.bool true) rfl rfl<|⟨congrArg Ending.returned (dT (p:=Lt c) (by omega)),rfl⟩
   .exact qZ 4 rfl<|nl<|A<|ret<|leave1 (v:=vB (c=95)) rfl rfl<|⟨congrArg Ending.returned (dq (q:=Lt c) (by omega)),rfl⟩
theorem N8 (s:ByteArray) (w0:World) :
  Calls Tryz.prog 189 #[.string s] w0 λe w'=>e= .returned (vB (JJ s))/\w0=w':=by
 refine enter Tryz.func189 rfl 13 Tryz.ntmps189 rfl<|sZ rfl<|sj λ_ A=>qZ 2 rfl<|st_if (p:=s.toList=(ByteArray.mk #[105,110,112,117,116]).toList) (ai rfl) (λB=>?_) (λB=>?_)
 .exact qZ 8 rfl<|nl<|A<|ret<|leave1 (v:=.bool true) rfl rfl<|⟨congrArg Ending.returned (dT (p:=JJ s) (by first | exact .inl ‹_› | exact .inr (.inl ‹_›) | exact ⟨λh=>.inr (.inr h),λh=>h.elim (λh=>absurd h ‹_›) λh=>h.elim (λh=>absurd h ‹_›) id⟩)),rfl⟩
 .refine qZ 3 rfl<|st_if (p:=s.toList=(ByteArray.mk #[111,117,116,112,117,116]).toList) (ai rfl) (λC=>?_) (λC=>?_)
  .exact qZ 4 rfl<|nl<|A<|ret<|leave1 (v:=.bool true) rfl rfl<|⟨congrArg Ending.returned (dT (p:=JJ s) (by first | exact .inl ‹_› | exact .inr (.inl ‹_›) | exact ⟨λh=>.inr (.inr h),λh=>h.elim (λh=>absurd h ‹_›) λh=>h.elim (λh=>absurd h ‹_›) id⟩)),rfl⟩
  .exact qZ 4 rfl<|nl<|A<|ret<|leave1 (v:=vB (s.toList=(ByteArray.mk #[110,111,116]).toList)) rfl rfl<|⟨congrArg Ending.returned (dq (q:=JJ s) (by first | exact .inl ‹_› | exact .inr (.inl ‹_›) | exact ⟨λh=>.inr (.inr h),λh=>h.elim (λh=>absurd h ‹_›) λh=>h.elim (λh=>absurd h ‹_›) id⟩)),rfl⟩
theorem T.cf122:CF Tryz.prog 122:=λ_ _=>by kernel_rfl
theorem xq (s:ByteArray) (w0:World) (hs:s.size<=9223372036854775807) :
  Calls Tryz.prog 123 #[.string s] w0 λe w'=>e= .returned (.int .i64 (kind s:Int))/\w0=w':=by
 refine enter Tryz.func123 rfl 60 Tryz.ntmps123 rfl<|sZ rfl<|seqJ λ_ aa N _=>sj λ_ O=>qZ 3 rfl<|st_if (p:=s.size<1) (ai rfl) (λba=>?_) (λba=>?_)
 .refine qZ 4 rfl<|nl<|O<|cndT rfl<|sZ rfl<|ret<|N<|leave1 (v:=vN 0) rfl rfl<|?_;have hk:kind s=0:=by first | exact eu (by omega) | exact jK (i:=i) (by omega) ‹_› | rw [aD (s:=s) (by omega) (by omega) (λj hj=>hw j (by omega)),if_pos (by omega),if_neg (λh:mY s=>absurd (hd.2 λj hj=>h j (by omega)) ‹_›)] | rw [aD (s:=s) (by omega) (by omega) (λj hj=>hw j (by omega)),if_neg (by omega),if_neg (by omega),if_pos (by omega)]
  exact ⟨by rw [hk],rfl⟩
 .refine qZ 4 rfl<|nl<|O<|cnd (p:=64<s.size) rfl (λca=>?_) (λca=>?_)
  .refine sZ rfl<|ret<|N<|leave1 (v:=vN 0) rfl rfl<|?_;have hk:kind s=0:=by first | exact eu (by omega) | exact jK (i:=i) (by omega) ‹_› | rw [aD (s:=s) (by omega) (by omega) (λj hj=>hw j (by omega)),if_pos (by omega),if_neg (λh:mY s=>absurd (hd.2 λj hj=>h j (by omega)) ‹_›)] | rw [aD (s:=s) (by omega) (by omega) (λj hj=>hw j (by omega)),if_neg (by omega),if_neg (by omega),if_pos (by omega)]
   exact ⟨by rw [hk],rfl⟩
  .refine skip<|aa<|sZ rfl<|seqJ λ_ da ea _=>sZ rfl<|blockJ λ_ _ fa _ ga=>ay (α:=Nat × Bool) (λx=>[(0,.string s),(3,.bool x.2),(15,vN s.size),(16,vN x.1)]) (λx ha=>w0=ha/\x.1<=s.size/\(∀ j,j<x.1->Lt (ch s j))/\(x.2=true↔∀ j,j<x.1->ch s j<=57)) (λx=>s.size-x.1) (0,true) ⟨rfl,rfl,rfl,rfl,trivial⟩ ?_ ?_
   .refine ⟨rfl,?_⟩;(try dsimp only);exact ⟨Nat.zero_le _,λj h=>by omega,λ_ j h=>by omega,λ_=>rfl⟩
   .rintro eb ⟨i,d⟩ fb ⟨rfl,⟨hi,hw,hd⟩⟩;(try dsimp only at hi hw hd);intro gb R ia ja;refine sZ rfl<|seqJ λ_ ka _ la=>cnd (p:=i<s.size) rfl (λma=>?_) (λma=>?_)
    .refine skip<|ka<|seqJ λ_ U na _=>blockJ λ_ V oa _ _=>sZ rfl<|seqJ λ_ pa qa _=>sj λ_ ra=>qt mv<|qt mv<|qt (bg Tryz.underlying9 rfl rfl (by omega))<|cl T.cf122 (K4 _ _) rfl λ_ _ ⟨er,rfl⟩=>⟨_,er,?_⟩;refine qt (aV rfl)<|nl<|ra<|cnd (p:=¬ (Lt (ch s i))) rfl (λsa=>?_) (λsa=>?_)
     .refine sZ rfl<|ret<|qa<|oa<|na<|ia _ _<|fa<|ea<|leave1 (v:=vN 0) rfl rfl<|?_;have hk:kind s=0:=by first | exact eu (by omega) | exact jK (i:=i) (by omega) ‹_› | rw [aD (s:=s) (by omega) (by omega) (λj hj=>hw j (by omega)),if_pos (by omega),if_neg (λh:mY s=>absurd (hd.2 λj hj=>h j (by omega)) ‹_›)] | rw [aD (s:=s) (by omega) (by omega) (λj hj=>hw j (by omega)),if_neg (by omega),if_neg (by omega),if_pos (by omega)]
      exact ⟨by rw [hk],rfl⟩
     .refine skip<|pa<|region<|qt mv<|st_if (p:=d=true) (EB rfl) (λta=>?_) (λta=>?_)
      .refine qZ 2 rfl<|st_gq 1 25 rfl rfl (by decide)<|qt (bg Tryz.underlying9 rfl rfl (by omega))<|qZ 3 rfl<|nl<|V<|U<|rL (.a1 (by omega) .z) rfl rfl<|R _ ((i+1),(decide ((ch s i)<=57))) _ ⟨rfl,rfl,rfl,rfl,trivial⟩ ⟨rfl,?_⟩ ?_
       ·(try dsimp only);exact ⟨by omega,λj hj=>(by rcases Nat.lt_or_ge j i with h | h;exact hw j h;rw [show j=i by omega];exact Decidable.of_not_not ‹_›),(⟨λh j hj=>(Nat.lt_or_ge j i).elim (λW=>hd.1 ‹_› j W) (λW=>(by rw [show j=i by omega];exact of_decide_eq_true h)),λh=>decide_eq_true (h i (by omega))⟩)⟩
       ·(try dsimp only);omega
      .refine qZ 6 rfl<|nl<|V<|U<|rL (.a1 (by omega) .z) rfl rfl<|R _ ((i+1),false) _ ⟨rfl,rfl,rfl,rfl,trivial⟩ ⟨rfl,?_⟩ ?_
       ·(try dsimp only);exact ⟨by omega,λj hj=>(by rcases Nat.lt_or_ge j i with h | h;exact hw j h;rw [show j=i by omega];exact Decidable.of_not_not ‹_›),(⟨λh=>(by cases h),λh=>absurd (hd.2 λj hj=>h j (by omega)) ‹_›⟩)⟩
       ·(try dsimp only);omega
    .refine exit<|la<|ja _ _ _<|ga<|da<|seqJ λ_ C A _=>sj λ_ ua=>qt mv<|qt (bg (i:=0) Tryz.underlying9 rfl rfl (by omega))<|?_;have hb:=hw 0 (by omega);refine qt (NT Tryz.underlying21 Tryz.underlying5 rfl (.inl (by omega)))<|qt asg<|nl<|ua<|blockJ λ_ D B _ _=>sj λ_ X=>qZ 2 rfl<|st_if (p:=48<=(ch s 0)) (ai rfl) (λva=>?_) (λva=>?_)
     .refine qZ 4 rfl<|nl<|X<|cnd (p:=(ch s 0)<=57) rfl (λwa=>?_) (λwa=>?_)
      .refine seqJ λ_ xa ya _=>sj λ_ za=>qt (EB rfl)<|nl<|za<|cnd (p:=d=true) rfl (λAa=>?_) (λAa=>?_)
       .refine sZ rfl<|ret<|ya<|B<|A<|leave1 (v:=vN 3) rfl rfl<|?_;have hk:kind s=3:=by rw [aD (s:=s) (by omega) (by omega) (λj hj=>hw j (by omega)),if_pos (by omega),if_pos (show mY s from λj hj=>hd.1 ‹_› j (by omega))]
        exact ⟨by rw [hk],rfl⟩
       .refine skip<|xa<|sZ rfl<|ret<|B<|A<|leave1 (v:=vN 0) rfl rfl<|?_;have hk:kind s=0:=by first | exact eu (by omega) | exact jK (i:=i) (by omega) ‹_› | rw [aD (s:=s) (by omega) (by omega) (λj hj=>hw j (by omega)),if_pos (by omega),if_neg (λh:mY s=>absurd (hd.2 λj hj=>h j (by omega)) ‹_›)] | rw [aD (s:=s) (by omega) (by omega) (λj hj=>hw j (by omega)),if_neg (by omega),if_neg (by omega),if_pos (by omega)]
        exact ⟨by rw [hk],rfl⟩
      .refine sj λ_ Y=>qZ 2 rfl<|st_if (p:=65<=(ch s 0)) (ai rfl) (λBa=>?_) (λBa=>?_)
       .refine qZ 4 rfl<|nl<|Y<|cnd (p:=(ch s 0)<=90) rfl (λCa=>?_) (λCa=>?_)
        .refine sZ rfl<|ret<|B<|A<|leave1 (v:=vN 2) rfl rfl<|?_;have hk:kind s=2:=by rw [aD (s:=s) (by omega) (by omega) (λj hj=>hw j (by omega)),if_neg (by omega),if_pos (by omega)]
         exact ⟨by rw [hk],rfl⟩
        .refine sZ rfl<|cnd (p:=(ch s 0)=95) rfl (λDa=>?_) (λDa=>?_)
         .refine sZ rfl<|ret<|B<|A<|leave1 (v:=vN 0) rfl rfl<|?_;have hk:kind s=0:=by first | exact eu (by omega) | exact jK (i:=i) (by omega) ‹_› | rw [aD (s:=s) (by omega) (by omega) (λj hj=>hw j (by omega)),if_pos (by omega),if_neg (λh:mY s=>absurd (hd.2 λj hj=>h j (by omega)) ‹_›)] | rw [aD (s:=s) (by omega) (by omega) (λj hj=>hw j (by omega)),if_neg (by omega),if_neg (by omega),if_pos (by omega)]
          exact ⟨by rw [hk],rfl⟩
         .refine skip<|D<|C<|seqJ λ_ Ea E _=>sZ rfl<|blockJ λ_ Fa G _ _=>sZ rfl<|cnd (p:=s.toList=(ByteArray.mk #[105,110,112,117,116]).toList) rfl (λGa=>?_) (λGa=>?_)
          .refine sZ rfl<|ret<|G<|E<|leave1 (v:=vN 5) rfl rfl<|?_;have hk:kind s=5:=by rw [aD (s:=s) (by omega) (by omega) (λj hj=>hw j (by omega)),if_neg (by omega),if_neg (by omega),if_neg (by omega),if_pos ‹_›]
           exact ⟨by rw [hk],rfl⟩
          .refine sZ rfl<|cnd (p:=s.toList=(ByteArray.mk #[111,117,116,112,117,116]).toList) rfl (λHa=>?_) (λHa=>?_)
           .refine sZ rfl<|ret<|G<|E<|leave1 (v:=vN 6) rfl rfl<|?_;have hk:kind s=6:=by rw [aD (s:=s) (by omega) (by omega) (λj hj=>hw j (by omega)),if_neg (by omega),if_neg (by omega),if_neg (by omega),if_neg ‹_›,if_pos ‹_›]
            exact ⟨by rw [hk],rfl⟩
           .refine sZ rfl<|cnd (p:=s.toList=(ByteArray.mk #[110,111,116]).toList) rfl (λIa=>?_) (λIa=>?_)
            .refine sZ rfl<|ret<|G<|E<|leave1 (v:=vN 7) rfl rfl<|?_;have hk:kind s=7:=by rw [aD (s:=s) (by omega) (by omega) (λj hj=>hw j (by omega)),if_neg (by omega),if_neg (by omega),if_neg (by omega),if_neg ‹_›,if_neg ‹_›,if_pos ‹_›]
             exact ⟨by rw [hk],rfl⟩
            .refine skip<|Fa<|Ea<|sZ rfl<|ret<|leave1 (v:=vN 1) rfl rfl<|?_;have hk:kind s=1:=by rw [aD (s:=s) (by omega) (by omega) (λj hj=>hw j (by omega)),if_neg (by omega),if_neg (by omega),if_neg (by omega),if_neg ‹_›,if_neg ‹_›,if_neg ‹_›]
             exact ⟨by rw [hk],rfl⟩
       .refine qZ 4 rfl<|nl<|Y<|cndF rfl<|sZ rfl<|cnd (p:=(ch s 0)=95) rfl (λJa=>?_) (λJa=>?_)
        .refine sZ rfl<|ret<|B<|A<|leave1 (v:=vN 0) rfl rfl<|?_;have hk:kind s=0:=by first | exact eu (by omega) | exact jK (i:=i) (by omega) ‹_› | rw [aD (s:=s) (by omega) (by omega) (λj hj=>hw j (by omega)),if_pos (by omega),if_neg (λh:mY s=>absurd (hd.2 λj hj=>h j (by omega)) ‹_›)] | rw [aD (s:=s) (by omega) (by omega) (λj hj=>hw j (by omega)),if_neg (by omega),if_neg (by omega),if_pos (by omega)]
         exact ⟨by rw [hk],rfl⟩
        .refine skip<|D<|C<|seqJ λ_ Ka H _=>sZ rfl<|blockJ λ_ La I _ _=>sZ rfl<|cnd (p:=s.toList=(ByteArray.mk #[105,110,112,117,116]).toList) rfl (λMa=>?_) (λMa=>?_)
         .refine sZ rfl<|ret<|I<|H<|leave1 (v:=vN 5) rfl rfl<|?_;have hk:kind s=5:=by rw [aD (s:=s) (by omega) (by omega) (λj hj=>hw j (by omega)),if_neg (by omega),if_neg (by omega),if_neg (by omega),if_pos ‹_›]
          exact ⟨by rw [hk],rfl⟩
         .refine sZ rfl<|cnd (p:=s.toList=(ByteArray.mk #[111,117,116,112,117,116]).toList) rfl (λNa=>?_) (λNa=>?_)
          .refine sZ rfl<|ret<|I<|H<|leave1 (v:=vN 6) rfl rfl<|?_;have hk:kind s=6:=by rw [aD (s:=s) (by omega) (by omega) (λj hj=>hw j (by omega)),if_neg (by omega),if_neg (by omega),if_neg (by omega),if_neg ‹_›,if_pos ‹_›]
           exact ⟨by rw [hk],rfl⟩
          .refine sZ rfl<|cnd (p:=s.toList=(ByteArray.mk #[110,111,116]).toList) rfl (λOa=>?_) (λOa=>?_)
           .refine sZ rfl<|ret<|I<|H<|leave1 (v:=vN 7) rfl rfl<|?_;have hk:kind s=7:=by rw [aD (s:=s) (by omega) (by omega) (λj hj=>hw j (by omega)),if_neg (by omega),if_neg (by omega),if_neg (by omega),if_neg ‹_›,if_neg ‹_›,if_pos ‹_›]
            exact ⟨by rw [hk],rfl⟩
           .refine skip<|La<|Ka<|sZ rfl<|ret<|leave1 (v:=vN 1) rfl rfl<|?_;have hk:kind s=1:=by rw [aD (s:=s) (by omega) (by omega) (λj hj=>hw j (by omega)),if_neg (by omega),if_neg (by omega),if_neg (by omega),if_neg ‹_›,if_neg ‹_›,if_neg ‹_›]
            exact ⟨by rw [hk],rfl⟩
     .refine qZ 4 rfl<|nl<|X<|cndF rfl<|sj λ_ Z=>qZ 2 rfl<|st_if (p:=65<=(ch s 0)) (ai rfl) (λPa=>?_) (λPa=>?_)
      .refine qZ 4 rfl<|nl<|Z<|cnd (p:=(ch s 0)<=90) rfl (λQa=>?_) (λQa=>?_)
       .refine sZ rfl<|ret<|B<|A<|leave1 (v:=vN 2) rfl rfl<|?_;have hk:kind s=2:=by rw [aD (s:=s) (by omega) (by omega) (λj hj=>hw j (by omega)),if_neg (by omega),if_pos (by omega)]
        exact ⟨by rw [hk],rfl⟩
       .refine sZ rfl<|cnd (p:=(ch s 0)=95) rfl (λRa=>?_) (λRa=>?_)
        .refine sZ rfl<|ret<|B<|A<|leave1 (v:=vN 0) rfl rfl<|?_;have hk:kind s=0:=by first | exact eu (by omega) | exact jK (i:=i) (by omega) ‹_› | rw [aD (s:=s) (by omega) (by omega) (λj hj=>hw j (by omega)),if_pos (by omega),if_neg (λh:mY s=>absurd (hd.2 λj hj=>h j (by omega)) ‹_›)] | rw [aD (s:=s) (by omega) (by omega) (λj hj=>hw j (by omega)),if_neg (by omega),if_neg (by omega),if_pos (by omega)]
         exact ⟨by rw [hk],rfl⟩
        .refine skip<|D<|C<|seqJ λ_ Sa J _=>sZ rfl<|blockJ λ_ Ta K _ _=>sZ rfl<|cnd (p:=s.toList=(ByteArray.mk #[105,110,112,117,116]).toList) rfl (λUa=>?_) (λUa=>?_)
         .refine sZ rfl<|ret<|K<|J<|leave1 (v:=vN 5) rfl rfl<|?_;have hk:kind s=5:=by rw [aD (s:=s) (by omega) (by omega) (λj hj=>hw j (by omega)),if_neg (by omega),if_neg (by omega),if_neg (by omega),if_pos ‹_›]
          exact ⟨by rw [hk],rfl⟩
         .refine sZ rfl<|cnd (p:=s.toList=(ByteArray.mk #[111,117,116,112,117,116]).toList) rfl (λVa=>?_) (λVa=>?_)
          .refine sZ rfl<|ret<|K<|J<|leave1 (v:=vN 6) rfl rfl<|?_;have hk:kind s=6:=by rw [aD (s:=s) (by omega) (by omega) (λj hj=>hw j (by omega)),if_neg (by omega),if_neg (by omega),if_neg (by omega),if_neg ‹_›,if_pos ‹_›]
           exact ⟨by rw [hk],rfl⟩
          .refine sZ rfl<|cnd (p:=s.toList=(ByteArray.mk #[110,111,116]).toList) rfl (λWa=>?_) (λWa=>?_)
           .refine sZ rfl<|ret<|K<|J<|leave1 (v:=vN 7) rfl rfl<|?_;have hk:kind s=7:=by rw [aD (s:=s) (by omega) (by omega) (λj hj=>hw j (by omega)),if_neg (by omega),if_neg (by omega),if_neg (by omega),if_neg ‹_›,if_neg ‹_›,if_pos ‹_›]
            exact ⟨by rw [hk],rfl⟩
           .refine skip<|Ta<|Sa<|sZ rfl<|ret<|leave1 (v:=vN 1) rfl rfl<|?_;have hk:kind s=1:=by rw [aD (s:=s) (by omega) (by omega) (λj hj=>hw j (by omega)),if_neg (by omega),if_neg (by omega),if_neg (by omega),if_neg ‹_›,if_neg ‹_›,if_neg ‹_›]
            exact ⟨by rw [hk],rfl⟩
      .refine qZ 4 rfl<|nl<|Z<|cndF rfl<|sZ rfl<|cnd (p:=(ch s 0)=95) rfl (λXa=>?_) (λXa=>?_)
       .refine sZ rfl<|ret<|B<|A<|leave1 (v:=vN 0) rfl rfl<|?_;have hk:kind s=0:=by first | exact eu (by omega) | exact jK (i:=i) (by omega) ‹_› | rw [aD (s:=s) (by omega) (by omega) (λj hj=>hw j (by omega)),if_pos (by omega),if_neg (λh:mY s=>absurd (hd.2 λj hj=>h j (by omega)) ‹_›)] | rw [aD (s:=s) (by omega) (by omega) (λj hj=>hw j (by omega)),if_neg (by omega),if_neg (by omega),if_pos (by omega)]
        exact ⟨by rw [hk],rfl⟩
       .refine skip<|D<|C<|seqJ λ_ Ya L _=>sZ rfl<|blockJ λ_ Za M _ _=>sZ rfl<|cnd (p:=s.toList=(ByteArray.mk #[105,110,112,117,116]).toList) rfl (λbb=>?_) (λbb=>?_)
        .refine sZ rfl<|ret<|M<|L<|leave1 (v:=vN 5) rfl rfl<|?_;have hk:kind s=5:=by rw [aD (s:=s) (by omega) (by omega) (λj hj=>hw j (by omega)),if_neg (by omega),if_neg (by omega),if_neg (by omega),if_pos ‹_›]
         exact ⟨by rw [hk],rfl⟩
        .refine sZ rfl<|cnd (p:=s.toList=(ByteArray.mk #[111,117,116,112,117,116]).toList) rfl (λcb=>?_) (λcb=>?_)
         .refine sZ rfl<|ret<|M<|L<|leave1 (v:=vN 6) rfl rfl<|?_;have hk:kind s=6:=by rw [aD (s:=s) (by omega) (by omega) (λj hj=>hw j (by omega)),if_neg (by omega),if_neg (by omega),if_neg (by omega),if_neg ‹_›,if_pos ‹_›]
          exact ⟨by rw [hk],rfl⟩
         .refine sZ rfl<|cnd (p:=s.toList=(ByteArray.mk #[110,111,116]).toList) rfl (λdb=>?_) (λdb=>?_)
          .refine sZ rfl<|ret<|M<|L<|leave1 (v:=vN 7) rfl rfl<|?_;have hk:kind s=7:=by rw [aD (s:=s) (by omega) (by omega) (λj hj=>hw j (by omega)),if_neg (by omega),if_neg (by omega),if_neg (by omega),if_neg ‹_›,if_neg ‹_›,if_pos ‹_›]
           exact ⟨by rw [hk],rfl⟩
          .refine skip<|Za<|Ya<|sZ rfl<|ret<|leave1 (v:=vN 1) rfl rfl<|?_;have hk:kind s=1:=by rw [aD (s:=s) (by omega) (by omega) (λj hj=>hw j (by omega)),if_neg (by omega),if_neg (by omega),if_neg (by omega),if_neg ‹_›,if_neg ‹_›,if_neg ‹_›]
           exact ⟨by rw [hk],rfl⟩
theorem T.cf123:CF Tryz.prog 123:=λ_ _=>by kernel_rfl
theorem T.cf127:CF Tryz.prog 127:=λ_ _=>by kernel_rfl
theorem T.cf186:CF Tryz.prog 186:=λ_ _=>by kernel_rfl
theorem T.cf262:CF Tryz.prog 262:=λ_ _=>by kernel_rfl
theorem T.cf221:CF Tryz.prog 221:=λ_ _=>by kernel_rfl
theorem T.cf189:CF Tryz.prog 189:=λ_ _=>by kernel_rfl
theorem Cy (s:ByteArray) (w0:World) (hs:s.size<=9223372036854775807) :
  Calls Tryz.prog 127 #[.string s] w0 λe w'=>e= .returned (vB (kind s=1))/\w0=w':=by
 refine enter Tryz.func127 rfl 6 Tryz.ntmps127 rfl<|sZ rfl<|sj λ_ A=>qt mv<|cl T.cf123 (xq s _ (by omega)) rfl λ_ _ ⟨er,rfl⟩=>⟨_,er,?_⟩;exact qZ 2 rfl<|nl<|A<|ret<|leave1 (v:=vB ((kind s)=1)) rfl rfl<|⟨congrArg Ending.returned (dq (q:=kind s=1) (by omega)),rfl⟩
theorem xN (s:ByteArray) (w0:World) (hs:s.size<=9223372036854775807) :
  Calls Tryz.prog 111 #[.string s] w0 λe w'=>e= .returned (vB (kind s=2))/\w0=w':=by
 refine enter Tryz.func111 rfl 6 Tryz.ntmps111 rfl<|sZ rfl<|sj λ_ A=>qt mv<|cl T.cf123 (xq s _ (by omega)) rfl λ_ _ ⟨er,rfl⟩=>⟨_,er,?_⟩;exact qZ 2 rfl<|nl<|A<|ret<|leave1 (v:=vB ((kind s)=2)) rfl rfl<|⟨congrArg Ending.returned (dq (q:=kind s=2) (by omega)),rfl⟩
theorem EI (s:ByteArray) (w0:World) (hs:s.size<=9223372036854775807) :
  Calls Tryz.prog 186 #[.string s] w0 λe w'=>e= .returned (vB (kind s=3))/\w0=w':=by
 refine enter Tryz.func186 rfl 6 Tryz.ntmps186 rfl<|sZ rfl<|sj λ_ A=>qt mv<|cl T.cf123 (xq s _ (by omega)) rfl λ_ _ ⟨er,rfl⟩=>⟨_,er,?_⟩;exact qZ 2 rfl<|nl<|A<|ret<|leave1 (v:=vB ((kind s)=3)) rfl rfl<|⟨congrArg Ending.returned (dq (q:=kind s=3) (by omega)),rfl⟩
theorem C6 (s:ByteArray) (w0:World) (hs:s.size<=9223372036854775807) :
  Calls Tryz.prog 112 #[.string s] w0 λe w'=>e= .returned (vB (jl s))/\w0=w':=by
 refine enter Tryz.func112 rfl 9 Tryz.ntmps112 rfl<|sZ rfl<|sj λ_ A=>qt mv<|cl T.cf127 (Cy s _ (by omega)) rfl λ_ _ ⟨er,rfl⟩=>⟨_,er,?_⟩;refine st_if (p:=kind s=1) (ai rfl) (λB=>?_) (λB=>?_)
 .exact qZ 4 rfl<|nl<|A<|ret<|leave1 (v:=.bool true) rfl rfl<|⟨congrArg Ending.returned (dT (p:=jl s) (by unfold jl;omega)),rfl⟩
 .refine qZ 1 rfl<|st_gq 2 5 rfl rfl (by decide)<|cl T.cf186 (EI s _ (by omega)) rfl λ_ _ ⟨er,rfl⟩=>⟨_,er,?_⟩;exact qZ 2 rfl<|nl<|A<|ret<|leave1 (v:=vB (kind s=3)) rfl rfl<|⟨congrArg Ending.returned (dq (q:=jl s) (by unfold jl;omega)),rfl⟩
theorem FH (s:ByteArray) (w0:World) (hs:s.size<=9223372036854775807) :
  Calls Tryz.prog 221 #[.string s,.bool true] w0 λe w'=>e= .returned (vB (aO s true))/\w0=w':=by
 refine enter Tryz.func221 rfl 44 Tryz.ntmps221 rfl<|sZ rfl<|seqJ λ_ E D _=>sj λ_ C=>qZ 3 rfl<|st_if (p:=s.size<1) (ai rfl) (λG=>?_) (λG=>?_)
 .exact qZ 23 rfl<|nl<|C<|cndT rfl<|sZ rfl<|ret<|D<|leave1 (v:=.bool false) rfl rfl<|⟨congrArg Ending.returned (dF (p:=aO s true) (by first | exact ⟨by omega,by omega,by first | assumption | (show Sm _;omega) | (show Gr _;omega),λj B A=>hw j (by omega) A⟩ | exact λh=>absurd (h.2.2.2 i (by omega) (by omega)) ‹_› | exact λh=>absurd h.2.2.1 ‹_› | exact λh=>by have B:=h.1;have A:=h.2.1;omega)),rfl⟩
 .refine qZ 4 rfl<|st_if (p:=64<s.size) (ai rfl) (λH=>?_) (λH=>?_)
  .exact qZ 18 rfl<|nl<|C<|cndT rfl<|sZ rfl<|ret<|D<|leave1 (v:=.bool false) rfl rfl<|⟨congrArg Ending.returned (dF (p:=aO s true) (by first | exact ⟨by omega,by omega,by first | assumption | (show Sm _;omega) | (show Gr _;omega),λj B A=>hw j (by omega) A⟩ | exact λh=>absurd (h.2.2.2 i (by omega) (by omega)) ‹_› | exact λh=>absurd h.2.2.1 ‹_› | exact λh=>by have B:=h.1;have A:=h.2.1;omega)),rfl⟩
  .refine qZ 3 rfl<|st_gq 10 16 rfl rfl (by decide)<|qt (bg (i:=0) Tryz.underlying9 rfl rfl (by omega))<|st_gq 10 16 rfl rfl (by decide)<|cl T.cf187 (xK _ _) rfl λ_ _ ⟨er,rfl⟩=>⟨_,er,?_⟩;refine st_gq 10 16 rfl rfl (by decide)<|qt (aV rfl)<|qZ 2 rfl<|st_if (p:=¬ (Sm (ch s 0))) (ai rfl) (λI=>?_) (λI=>?_)
   .exact qZ 9 rfl<|nl<|C<|cndT rfl<|sZ rfl<|ret<|D<|leave1 (v:=.bool false) rfl rfl<|⟨congrArg Ending.returned (dF (p:=aO s true) (by first | exact ⟨by omega,by omega,by first | assumption | (show Sm _;omega) | (show Gr _;omega),λj B A=>hw j (by omega) A⟩ | exact λh=>absurd (h.2.2.2 i (by omega) (by omega)) ‹_› | exact λh=>absurd h.2.2.1 ‹_› | exact λh=>by have B:=h.1;have A:=h.2.1;omega)),rfl⟩
   .refine qZ 1 rfl<|st_gq 17 23 rfl rfl (by decide)<|qt (bF (b:=true) rfl)<|qZ 7 rfl<|nl<|C<|cndF rfl<|skip<|E<|seqJ λ_ J K _=>sZ rfl<|blockJ λ_ _ L _ M=>ay (α:=Nat) (λx=>[(0,.string s),(5,vN x)]) (λx N=>w0=N/\1<=x/\x<=s.size/\(∀ j,j<x->1<=j->Lt (ch s j))) (λx=>s.size-x) (1) ⟨rfl,rfl,trivial⟩ ?_ ?_
    .refine ⟨rfl,?_⟩;(try dsimp only);exact ⟨Nat.le_refl _,by omega,λj B A=>by omega⟩
    .rintro ea i fa ⟨rfl,⟨h1i,hi,hw⟩⟩;(try dsimp only at h1i hi hw);intro ga O R U;refine seqJ λ_ V _ W=>sZ rfl<|cnd (p:=i<s.size) rfl (λX=>?_) (λX=>?_)
     .refine skip<|V<|seqJ λ_ Y Z _=>blockJ λ_ aa ba _ _=>sj λ_ ca=>qt mv<|qt mv<|qt (bg Tryz.underlying9 rfl rfl (by omega))<|cl T.cf262 (CA _ _) rfl λ_ _ ⟨er,rfl⟩=>⟨_,er,?_⟩;refine qt (aV rfl)<|nl<|ca<|cnd (p:=¬ (Lt (ch s i))) rfl (λda=>?_) (λda=>?_)
      .exact sZ rfl<|ret<|ba<|Z<|R _ _<|L<|K<|leave1 (v:=.bool false) rfl rfl<|⟨congrArg Ending.returned (dF (p:=aO s true) (by first | exact ⟨by omega,by omega,by first | assumption | (show Sm _;omega) | (show Gr _;omega),λj B A=>hw j (by omega) A⟩ | exact λh=>absurd (h.2.2.2 i (by omega) (by omega)) ‹_› | exact λh=>absurd h.2.2.1 ‹_› | exact λh=>by have B:=h.1;have A:=h.2.1;omega)),rfl⟩
      .refine skip<|aa<|Y<|rL (.a1 (by omega) .z) rfl rfl<|O _ ((i+1)) _ ⟨rfl,rfl,trivial⟩ ⟨rfl,?_⟩ ?_
       ·(try dsimp only);exact ⟨by omega,by omega,λj hj B=>(Nat.lt_or_ge j i).elim (λA=>hw j A B) (λA=>(by rw [show j=i by omega];exact Decidable.of_not_not ‹_›))⟩
       ·(try dsimp only);omega
     .exact exit<|W<|U _ _ _<|M<|J<|sZ rfl<|ret<|leave1 (v:=.bool true) rfl rfl<|⟨congrArg Ending.returned (dT (p:=aO s true) (by first | exact ⟨by omega,by omega,by first | assumption | (show Sm _;omega) | (show Gr _;omega),λj B A=>hw j (by omega) A⟩ | exact λh=>absurd (h.2.2.2 i (by omega) (by omega)) ‹_› | exact λh=>absurd h.2.2.1 ‹_› | exact λh=>by have B:=h.1;have A:=h.2.1;omega)),rfl⟩
theorem F6 (s:ByteArray) (w0:World) (hs:s.size<=9223372036854775807) :
  Calls Tryz.prog 221 #[.string s,.bool false] w0 λe w'=>e= .returned (vB (aO s false))/\w0=w':=by
 refine enter Tryz.func221 rfl 44 Tryz.ntmps221 rfl<|sZ rfl<|seqJ λ_ E C _=>sj λ_ D=>qZ 3 rfl<|st_if (p:=s.size<1) (ai rfl) (λG=>?_) (λG=>?_)
 .exact qZ 23 rfl<|nl<|D<|cndT rfl<|sZ rfl<|ret<|C<|leave1 (v:=.bool false) rfl rfl<|⟨congrArg Ending.returned (dF (p:=aO s false) (by first | exact ⟨by omega,by omega,by first | assumption | (show Sm _;omega) | (show Gr _;omega),λj B A=>hw j (by omega) A⟩ | exact λh=>absurd (h.2.2.2 i (by omega) (by omega)) ‹_› | exact λh=>absurd h.2.2.1 ‹_› | exact λh=>by have B:=h.1;have A:=h.2.1;omega)),rfl⟩
 .refine qZ 4 rfl<|st_if (p:=64<s.size) (ai rfl) (λH=>?_) (λH=>?_)
  .exact qZ 18 rfl<|nl<|D<|cndT rfl<|sZ rfl<|ret<|C<|leave1 (v:=.bool false) rfl rfl<|⟨congrArg Ending.returned (dF (p:=aO s false) (by first | exact ⟨by omega,by omega,by first | assumption | (show Sm _;omega) | (show Gr _;omega),λj B A=>hw j (by omega) A⟩ | exact λh=>absurd (h.2.2.2 i (by omega) (by omega)) ‹_› | exact λh=>absurd h.2.2.1 ‹_› | exact λh=>by have B:=h.1;have A:=h.2.1;omega)),rfl⟩
  .refine qZ 10 rfl<|st_gq 17 23 rfl rfl (by decide)<|qt (bF (b:=false) rfl)<|qZ 2 rfl<|st_gq 20 26 rfl rfl (by decide)<|qt (bg (i:=0) Tryz.underlying9 rfl rfl (by omega))<|st_gq 20 26 rfl rfl (by decide)<|cl T.cf263 (zt _ _) rfl λ_ _ ⟨er,rfl⟩=>⟨_,er,?_⟩;refine st_gq 20 26 rfl rfl (by decide)<|qt (aV rfl)<|qZ 2 rfl<|nl<|D<|cnd (p:=¬ (Gr (ch s 0))) rfl (λI=>?_) (λI=>?_)
   .exact sZ rfl<|ret<|C<|leave1 (v:=.bool false) rfl rfl<|⟨congrArg Ending.returned (dF (p:=aO s false) (by first | exact ⟨by omega,by omega,by first | assumption | (show Sm _;omega) | (show Gr _;omega),λj B A=>hw j (by omega) A⟩ | exact λh=>absurd (h.2.2.2 i (by omega) (by omega)) ‹_› | exact λh=>absurd h.2.2.1 ‹_› | exact λh=>by have B:=h.1;have A:=h.2.1;omega)),rfl⟩
   .refine skip<|E<|seqJ λ_ J K _=>sZ rfl<|blockJ λ_ _ L _ M=>ay (α:=Nat) (λx=>[(0,.string s),(5,vN x)]) (λx N=>w0=N/\1<=x/\x<=s.size/\(∀ j,j<x->1<=j->Lt (ch s j))) (λx=>s.size-x) (1) ⟨rfl,rfl,trivial⟩ ?_ ?_
    .refine ⟨rfl,?_⟩;(try dsimp only);exact ⟨Nat.le_refl _,by omega,λj B A=>by omega⟩
    .rintro ea i fa ⟨rfl,⟨h1i,hi,hw⟩⟩;(try dsimp only at h1i hi hw);intro ga O R U;refine seqJ λ_ V _ W=>sZ rfl<|cnd (p:=i<s.size) rfl (λX=>?_) (λX=>?_)
     .refine skip<|V<|seqJ λ_ Y Z _=>blockJ λ_ aa ba _ _=>sj λ_ ca=>qt mv<|qt mv<|qt (bg Tryz.underlying9 rfl rfl (by omega))<|cl T.cf262 (CA _ _) rfl λ_ _ ⟨er,rfl⟩=>⟨_,er,?_⟩;refine qt (aV rfl)<|nl<|ca<|cnd (p:=¬ (Lt (ch s i))) rfl (λda=>?_) (λda=>?_)
      .exact sZ rfl<|ret<|ba<|Z<|R _ _<|L<|K<|leave1 (v:=.bool false) rfl rfl<|⟨congrArg Ending.returned (dF (p:=aO s false) (by first | exact ⟨by omega,by omega,by first | assumption | (show Sm _;omega) | (show Gr _;omega),λj B A=>hw j (by omega) A⟩ | exact λh=>absurd (h.2.2.2 i (by omega) (by omega)) ‹_› | exact λh=>absurd h.2.2.1 ‹_› | exact λh=>by have B:=h.1;have A:=h.2.1;omega)),rfl⟩
      .refine skip<|aa<|Y<|rL (.a1 (by omega) .z) rfl rfl<|O _ ((i+1)) _ ⟨rfl,rfl,trivial⟩ ⟨rfl,?_⟩ ?_
       ·(try dsimp only);exact ⟨by omega,by omega,λj hj B=>(Nat.lt_or_ge j i).elim (λA=>hw j A B) (λA=>(by rw [show j=i by omega];exact Decidable.of_not_not ‹_›))⟩
       ·(try dsimp only);omega
     .exact exit<|W<|U _ _ _<|M<|J<|sZ rfl<|ret<|leave1 (v:=.bool true) rfl rfl<|⟨congrArg Ending.returned (dT (p:=aO s false) (by first | exact ⟨by omega,by omega,by first | assumption | (show Sm _;omega) | (show Gr _;omega),λj B A=>hw j (by omega) A⟩ | exact λh=>absurd (h.2.2.2 i (by omega) (by omega)) ‹_› | exact λh=>absurd h.2.2.1 ‹_› | exact λh=>by have B:=h.1;have A:=h.2.1;omega)),rfl⟩
theorem mX (s:ByteArray) (w0:World) (hs:s.size<=9223372036854775807) :
  Calls Tryz.prog 163 #[.string s] w0 λe w'=>e= .returned (vB (l9 s))/\w0=w':=by
 refine enter Tryz.func163 rfl 10 Tryz.ntmps163 rfl<|sZ rfl<|sj λ_ A=>qt mv<|cl T.cf221 (FH s _ (by omega)) rfl λ_ _ ⟨er,rfl⟩=>⟨_,er,?_⟩;refine st_if (p:=aO s true) (ai rfl) (λB=>?_) (λB=>?_)
 .refine qZ 1 rfl<|st_gq 2 5 rfl rfl (by decide)<|cl T.cf189 (N8 s _) rfl λ_ _ ⟨er,rfl⟩=>⟨_,er,?_⟩;exact st_gq 2 5 rfl rfl (by decide)<|qt (aV rfl)<|qZ 2 rfl<|nl<|A<|ret<|leave1 (v:=vB (¬ (JJ s))) rfl rfl<|⟨congrArg Ending.returned (dq (q:=l9 s) (by first | exact λh=>absurd h.1 ‹_› | exact ⟨λh=>⟨by assumption,h⟩,λh=>h.2⟩)),rfl⟩
 .exact qZ 5 rfl<|nl<|A<|ret<|leave1 (v:=.bool false) rfl rfl<|⟨congrArg Ending.returned (dF (p:=l9 s) (by first | exact λh=>absurd h.1 ‹_› | exact ⟨λh=>⟨by assumption,h⟩,λh=>h.2⟩)),rfl⟩
theorem Mq (s:ByteArray) (w0:World) (hs:s.size<=9223372036854775807) :
  Calls Tryz.prog 195 #[.string s] w0 λe w'=>e= .returned (vB (aO s false))/\w0=w':=by
 refine enter Tryz.func195 rfl 5 Tryz.ntmps195 rfl<|sZ rfl<|sj λ_ A=>qt mv<|cl T.cf221 (F6 s _ (by omega)) rfl λ_ _ ⟨er,rfl⟩=>⟨_,er,?_⟩;exact qt asg<|nl<|A<|ret<|leave1 (v:=vB (aO s false)) rfl rfl<|⟨congrArg Ending.returned (dq (q:=aO s false) (Iff.rfl)),rfl⟩
theorem yX (s:ByteArray) (w0:World) (hs:s.size<=9223372036854775807) :
  Calls Tryz.prog 196 #[.string s] w0 λe w'=>e= .returned (vB (s.size<=1024))/\w0=w':=by
 exact enter Tryz.func196 rfl 6 Tryz.ntmps196 rfl<|sZ rfl<|sZ rfl<|ret<|leave1 (v:=vB (s.size<=1024)) rfl rfl<|⟨congrArg Ending.returned (dq (q:=s.size<=1024) (by omega)),rfl⟩
end Go.Proofs.YtljfgmedbjlkaaaGreat
