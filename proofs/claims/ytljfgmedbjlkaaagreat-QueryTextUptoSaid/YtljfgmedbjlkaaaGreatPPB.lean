/- A part of the engine: steps over the model. Over any program. -/
import Derived.Test.YtljfgmedbjlkaaaGreatTQ
import Derived.Test.YtljfgmedbjlkaaaGreatPG
import Derived.Test.YtljfgmedbjlkaaaGreatVR
import Derived.Test.YtljfgmedbjlkaaaGreatProg
import Derived.Test.YtljfgmedbjlkaaaGreatPPA
import Derived.Test.YtljfgmedbjlkaaaGreatQA
import Derived.Test.YtljfgmedbjlkaaaGreatVA
namespace Go.Proofs.YtljfgmedbjlkaaaGreat
open Go.RowKit Go.Eng Go.QP
theorem Gw (s:ByteArray) (w0:World) :
  Calls Tryz.prog 203 #[.string s,.bool true] w0 λe w'=>e= .returned (vB (aO s true))/\Ext w0 w':=by
 have hmx:maxLen=9223372036854775807:=rfl;refine enter Tryz.func203 rfl 71 Tryz.ntmps203 rfl<|sZ rfl<|seqJ λ_ Y U _=>sj λ_ V=>qZ 2 rfl<|st_if (p:=s.toList=(ByteArray.mk #[]).toList) (ai rfl) (λZ=>?_) (λZ=>?_)
 .refine qZ 4 rfl<|nl<|V<|cndT rfl<|sZ rfl<|ret<|U<|leave1 (v:=.bool false) rfl rfl<|?_;simp only [bP] at *;exact ⟨congrArg Ending.returned (dF (p:=aO s true) (λh=>by have aa:=h.1;have ba:=h.2.1;omega)),(Hp.start No w0).x⟩
 .refine qZ 4 rfl<|nl<|V<|cnd (p:=64<s.size) rfl (λca=>?_) (λca=>?_)
  .refine sZ rfl<|ret<|U<|leave1 (v:=.bool false) rfl rfl<|?_;simp only [bP] at *;exact ⟨congrArg Ending.returned (dF (p:=aO s true) (λh=>by have aa:=h.1;have ba:=h.2.1;omega)),(Hp.start No w0).x⟩
  .refine skip<|Y<|seqJ λ_ da E _=>sj λ_ ea=>qt mv<|st_e<|ErgS (Hp.start No w0) Tryz.underlying9 rfl λM _ fa _=>nl<|ea<|blockJ λ_ _ G _ ga=>ay (α:=Nat) (λx=>[(1,.bool true),(17,.pointer (some ⟨M,0,none⟩))]) (λx ha=>Hp No w0 ha [cR M (.stringIter s x)]/\WI s true x) (λx=>s.size-x) (0) ⟨rfl,rfl,trivial⟩ ?_ ?_
   .refine ⟨(fa.pick [0] (by decide)),?_⟩;(try dsimp only);exact WI.zero
   .rintro Fa p Ga ⟨W,hp⟩;(try dsimp only at hp);intro Ha B H ia;have hd:=wL s p;have hq:=hp.1;have hmx:maxLen=9223372036854775807:=rfl;refine sj λ_ X=>st_e<|EnxS W 0 rfl rfl (λ_=>?_) (λ_ _ N=>?_)
    .refine qZ 1 rfl<|nl<|X<|seqJ λ_ _ _ ja=>cndF rfl<|exit<|ja<|ia _ _ _<|ga<|da<|sZ rfl<|ret<|leave1 (v:=.bool true) rfl rfl<|?_;simp only [bP] at *;exact ⟨congrArg Ending.returned (dT (p:=aO s true) (hp.word (by omega) (by omega) (by omega))),W.x⟩
    .refine qZ 1 rfl<|nl<|X<|seqJ λ_ ka _ _=>cndT rfl<|skip<|ka<|blockJ λ_ C I _ _=>sZ rfl<|seqLK (n:=71) (ds:=[]) (α:=Bool × Bool) (λx=>[(1,.bool true),(5,vN p),(6,.int .i32 (((Utf8.decode s p).1:Nat):Int)),(7,.bool x.1),(8,.bool x.2),(17,.pointer (some ⟨M,0,none⟩))]) (λx la=>Hp No w0 la [cR M (.stringIter s (p+(Utf8.decode s p).2))]/\x.1=decide (Sm (Utf8.decode s p).1)/\x.2=decide (Gr (Utf8.decode s p).1)) ?_ ?_
     .intro Ia O Ja Ka;refine region<|qZ 2 rfl<|st_if (p:=97<=((Utf8.decode s p).1)) (ai rfl) (λma=>?_) (λma=>?_)
      .refine qZ 5 rfl<|st_if (p:=65<=((Utf8.decode s p).1)) (ai rfl) (λna=>?_) (λna=>?_)
       .refine qZ 5 rfl<|nl<|O _ (decide (((Utf8.decode s p).1)<=122),decide (((Utf8.decode s p).1)<=90)) _ ⟨rfl,rfl,rfl,rfl,rfl,rfl,trivial⟩ ⟨N,?_⟩;(try dsimp only);exact ⟨by first | exact decide_eq_decide.2 (by omega) | exact (decide_eq_true (by omega)).symm | exact (decide_eq_false (by omega)).symm,by first | exact decide_eq_decide.2 (by omega) | exact (decide_eq_true (by omega)).symm | exact (decide_eq_false (by omega)).symm⟩
       .refine qZ 5 rfl<|nl<|O _ (decide (((Utf8.decode s p).1)<=122),false) _ ⟨rfl,rfl,rfl,rfl,rfl,rfl,trivial⟩ ⟨N,?_⟩;(try dsimp only);exact ⟨by first | exact decide_eq_decide.2 (by omega) | exact (decide_eq_true (by omega)).symm | exact (decide_eq_false (by omega)).symm,by first | exact decide_eq_decide.2 (by omega) | exact (decide_eq_true (by omega)).symm | exact (decide_eq_false (by omega)).symm⟩
      .refine qZ 5 rfl<|st_if (p:=65<=((Utf8.decode s p).1)) (ai rfl) (λoa=>?_) (λoa=>?_)
       .refine qZ 5 rfl<|nl<|O _ (false,decide (((Utf8.decode s p).1)<=90)) _ ⟨rfl,rfl,rfl,rfl,rfl,rfl,trivial⟩ ⟨N,?_⟩;(try dsimp only);exact ⟨by first | exact decide_eq_decide.2 (by omega) | exact (decide_eq_true (by omega)).symm | exact (decide_eq_false (by omega)).symm,by first | exact decide_eq_decide.2 (by omega) | exact (decide_eq_true (by omega)).symm | exact (decide_eq_false (by omega)).symm⟩
       .refine qZ 5 rfl<|nl<|O _ (false,false) _ ⟨rfl,rfl,rfl,rfl,rfl,rfl,trivial⟩ ⟨N,?_⟩;(try dsimp only);exact ⟨by first | exact decide_eq_decide.2 (by omega) | exact (decide_eq_true (by omega)).symm | exact (decide_eq_false (by omega)).symm,by first | exact decide_eq_decide.2 (by omega) | exact (decide_eq_true (by omega)).symm | exact (decide_eq_false (by omega)).symm⟩
     .rintro La ⟨lo,up⟩ Ma ⟨A,⟨rfl,rfl⟩⟩;(try dsimp only at A ⊢);refine blockJ λ_ D J _ _=>sj λ_ R=>qZ 2 rfl<|st_if (p:=p=0) (ai rfl) (λpa=>?_) (λpa=>?_)
      .refine qZ 4 rfl<|st_gq 2 37 rfl rfl (by decide)<|st_if (p:=Sm (Utf8.decode s p).1) (ai rfl) (λqa=>?_) (λqa=>?_)
       .refine qZ 8 rfl<|nl<|R<|cndT rfl<|skip<|D<|C<|B _ ((p+(Utf8.decode s p).2)) _ ⟨rfl,rfl,trivial⟩ ⟨(A.pick [0] (by decide)),?_⟩ ?_
        ·(try dsimp only);exact hp.step (by omega) (λe=>by first | (show Sm _;assumption) | (show Gr _;assumption) | omega) (λe=>by first | omega | (unfold Go.QP.Lt;omega))
        ·(try dsimp only);omega
       .refine qZ 1 rfl<|st_gq 7 42 rfl rfl (by decide)<|qt (bF (b:=true) rfl)<|qZ 6 rfl<|nl<|R<|cndF rfl<|sj λ_ K=>qZ 2 rfl<|st_if (p:=0<p) (ai rfl) (λra=>?_) (λra=>?_)
        .refine qZ 1 rfl<|st_gq 2 53 rfl rfl (by decide)<|st_if (p:=Sm (Utf8.decode s p).1) (ai rfl) (λsa=>?_) (λsa=>?_)
         .refine qZ 16 rfl<|nl<|K<|cndT rfl<|skip<|D<|C<|B _ ((p+(Utf8.decode s p).2)) _ ⟨rfl,rfl,trivial⟩ ⟨(A.pick [0] (by decide)),?_⟩ ?_
          ·(try dsimp only);exact hp.step (by omega) (λe=>by first | (show Sm _;assumption) | (show Gr _;assumption) | omega) (λe=>by first | omega | (unfold Go.QP.Lt;omega))
          ·(try dsimp only);omega
         .refine qZ 2 rfl<|st_gq 2 53 rfl rfl (by decide)<|st_if (p:=Gr (Utf8.decode s p).1) (ai rfl) (λta=>?_) (λta=>?_)
          .refine qZ 13 rfl<|nl<|K<|cndT rfl<|skip<|D<|C<|B _ ((p+(Utf8.decode s p).2)) _ ⟨rfl,rfl,trivial⟩ ⟨(A.pick [0] (by decide)),?_⟩ ?_
           ·(try dsimp only);exact hp.step (by omega) (λe=>by first | (show Sm _;assumption) | (show Gr _;assumption) | omega) (λe=>by first | omega | (unfold Go.QP.Lt;omega))
           ·(try dsimp only);omega
          .refine qZ 2 rfl<|st_gq 7 58 rfl rfl (by decide)<|st_if (p:=48<=((Utf8.decode s p).1)) (ai rfl) (λua=>?_) (λua=>?_)
           .refine qZ 4 rfl<|st_gq 2 53 rfl rfl (by decide)<|st_if (p:=((Utf8.decode s p).1)<=57) (ai rfl) (λva=>?_) (λva=>?_)
            .refine qZ 5 rfl<|nl<|K<|cndT rfl<|skip<|D<|C<|B _ ((p+(Utf8.decode s p).2)) _ ⟨rfl,rfl,trivial⟩ ⟨(A.pick [0] (by decide)),?_⟩ ?_
             ·(try dsimp only);exact hp.step (by omega) (λe=>by first | (show Sm _;assumption) | (show Gr _;assumption) | omega) (λe=>by first | omega | (unfold Go.QP.Lt;omega))
             ·(try dsimp only);omega
            .refine qZ 5 rfl<|nl<|K<|cnd (p:=((Utf8.decode s p).1)=95) rfl (λwa=>?_) (λwa=>?_)
             .refine skip<|D<|C<|B _ ((p+(Utf8.decode s p).2)) _ ⟨rfl,rfl,trivial⟩ ⟨(A.pick [0] (by decide)),?_⟩ ?_
              ·(try dsimp only);exact hp.step (by omega) (λe=>by first | (show Sm _;assumption) | (show Gr _;assumption) | omega) (λe=>by first | omega | (unfold Go.QP.Lt;omega))
              ·(try dsimp only);omega
             .refine sZ rfl<|ret<|J<|I<|H _ _<|G<|E<|leave1 (v:=.bool false) rfl rfl<|?_;simp only [bP] at *;exact ⟨congrArg Ending.returned (dF (p:=aO s true) (WI.bad (p:=p) (by omega) (by first | exact .inl ⟨by omega,λh=>by first | exact absurd (show Sm _ from h) ‹_› | exact absurd (show Gr _ from h) ‹_›⟩ | exact .inr ⟨by omega,by unfold Go.QP.Lt;omega⟩))),A.x⟩
           .refine qZ 10 rfl<|nl<|K<|cnd (p:=((Utf8.decode s p).1)=95) rfl (λxa=>?_) (λxa=>?_)
            .refine skip<|D<|C<|B _ ((p+(Utf8.decode s p).2)) _ ⟨rfl,rfl,trivial⟩ ⟨(A.pick [0] (by decide)),?_⟩ ?_
             ·(try dsimp only);exact hp.step (by omega) (λe=>by first | (show Sm _;assumption) | (show Gr _;assumption) | omega) (λe=>by first | omega | (unfold Go.QP.Lt;omega))
             ·(try dsimp only);omega
            .refine sZ rfl<|ret<|J<|I<|H _ _<|G<|E<|leave1 (v:=.bool false) rfl rfl<|?_;simp only [bP] at *;exact ⟨congrArg Ending.returned (dF (p:=aO s true) (WI.bad (p:=p) (by omega) (by first | exact .inl ⟨by omega,λh=>by first | exact absurd (show Sm _ from h) ‹_› | exact absurd (show Gr _ from h) ‹_›⟩ | exact .inr ⟨by omega,by unfold Go.QP.Lt;omega⟩))),A.x⟩
        .refine qZ 18 rfl<|nl<|K<|cndF rfl<|sZ rfl<|ret<|J<|I<|H _ _<|G<|E<|leave1 (v:=.bool false) rfl rfl<|?_;simp only [bP] at *;exact ⟨congrArg Ending.returned (dF (p:=aO s true) (WI.bad (p:=p) (by omega) (by first | exact .inl ⟨by omega,λh=>by first | exact absurd (show Sm _ from h) ‹_› | exact absurd (show Gr _ from h) ‹_›⟩ | exact .inr ⟨by omega,by unfold Go.QP.Lt;omega⟩))),A.x⟩
      .refine qZ 13 rfl<|nl<|R<|cndF rfl<|sj λ_ L=>qZ 2 rfl<|st_if (p:=0<p) (ai rfl) (λya=>?_) (λya=>?_)
       .refine qZ 1 rfl<|st_gq 2 53 rfl rfl (by decide)<|st_if (p:=Sm (Utf8.decode s p).1) (ai rfl) (λza=>?_) (λza=>?_)
        .refine qZ 16 rfl<|nl<|L<|cndT rfl<|skip<|D<|C<|B _ ((p+(Utf8.decode s p).2)) _ ⟨rfl,rfl,trivial⟩ ⟨(A.pick [0] (by decide)),?_⟩ ?_
         ·(try dsimp only);exact hp.step (by omega) (λe=>by first | (show Sm _;assumption) | (show Gr _;assumption) | omega) (λe=>by first | omega | (unfold Go.QP.Lt;omega))
         ·(try dsimp only);omega
        .refine qZ 2 rfl<|st_gq 2 53 rfl rfl (by decide)<|st_if (p:=Gr (Utf8.decode s p).1) (ai rfl) (λAa=>?_) (λAa=>?_)
         .refine qZ 13 rfl<|nl<|L<|cndT rfl<|skip<|D<|C<|B _ ((p+(Utf8.decode s p).2)) _ ⟨rfl,rfl,trivial⟩ ⟨(A.pick [0] (by decide)),?_⟩ ?_
          ·(try dsimp only);exact hp.step (by omega) (λe=>by first | (show Sm _;assumption) | (show Gr _;assumption) | omega) (λe=>by first | omega | (unfold Go.QP.Lt;omega))
          ·(try dsimp only);omega
         .refine qZ 2 rfl<|st_gq 7 58 rfl rfl (by decide)<|st_if (p:=48<=((Utf8.decode s p).1)) (ai rfl) (λBa=>?_) (λBa=>?_)
          .refine qZ 4 rfl<|st_gq 2 53 rfl rfl (by decide)<|st_if (p:=((Utf8.decode s p).1)<=57) (ai rfl) (λCa=>?_) (λCa=>?_)
           .refine qZ 5 rfl<|nl<|L<|cndT rfl<|skip<|D<|C<|B _ ((p+(Utf8.decode s p).2)) _ ⟨rfl,rfl,trivial⟩ ⟨(A.pick [0] (by decide)),?_⟩ ?_
            ·(try dsimp only);exact hp.step (by omega) (λe=>by first | (show Sm _;assumption) | (show Gr _;assumption) | omega) (λe=>by first | omega | (unfold Go.QP.Lt;omega))
            ·(try dsimp only);omega
           .refine qZ 5 rfl<|nl<|L<|cnd (p:=((Utf8.decode s p).1)=95) rfl (λDa=>?_) (λDa=>?_)
            .refine skip<|D<|C<|B _ ((p+(Utf8.decode s p).2)) _ ⟨rfl,rfl,trivial⟩ ⟨(A.pick [0] (by decide)),?_⟩ ?_
             ·(try dsimp only);exact hp.step (by omega) (λe=>by first | (show Sm _;assumption) | (show Gr _;assumption) | omega) (λe=>by first | omega | (unfold Go.QP.Lt;omega))
             ·(try dsimp only);omega
            .refine sZ rfl<|ret<|J<|I<|H _ _<|G<|E<|leave1 (v:=.bool false) rfl rfl<|?_;simp only [bP] at *;exact ⟨congrArg Ending.returned (dF (p:=aO s true) (WI.bad (p:=p) (by omega) (by first | exact .inl ⟨by omega,λh=>by first | exact absurd (show Sm _ from h) ‹_› | exact absurd (show Gr _ from h) ‹_›⟩ | exact .inr ⟨by omega,by unfold Go.QP.Lt;omega⟩))),A.x⟩
          .refine qZ 10 rfl<|nl<|L<|cnd (p:=((Utf8.decode s p).1)=95) rfl (λEa=>?_) (λEa=>?_)
           .refine skip<|D<|C<|B _ ((p+(Utf8.decode s p).2)) _ ⟨rfl,rfl,trivial⟩ ⟨(A.pick [0] (by decide)),?_⟩ ?_
            ·(try dsimp only);exact hp.step (by omega) (λe=>by first | (show Sm _;assumption) | (show Gr _;assumption) | omega) (λe=>by first | omega | (unfold Go.QP.Lt;omega))
            ·(try dsimp only);omega
           .refine sZ rfl<|ret<|J<|I<|H _ _<|G<|E<|leave1 (v:=.bool false) rfl rfl<|?_;simp only [bP] at *;exact ⟨congrArg Ending.returned (dF (p:=aO s true) (WI.bad (p:=p) (by omega) (by first | exact .inl ⟨by omega,λh=>by first | exact absurd (show Sm _ from h) ‹_› | exact absurd (show Gr _ from h) ‹_›⟩ | exact .inr ⟨by omega,by unfold Go.QP.Lt;omega⟩))),A.x⟩
       .refine qZ 18 rfl<|nl<|L<|cndF rfl<|sZ rfl<|ret<|J<|I<|H _ _<|G<|E<|leave1 (v:=.bool false) rfl rfl<|?_;simp only [bP] at *;exact ⟨congrArg Ending.returned (dF (p:=aO s true) (WI.bad (p:=p) (by omega) (by first | exact .inl ⟨by omega,λh=>by first | exact absurd (show Sm _ from h) ‹_› | exact absurd (show Gr _ from h) ‹_›⟩ | exact .inr ⟨by omega,by unfold Go.QP.Lt;omega⟩))),A.x⟩
theorem EH (s:ByteArray) (w0:World) :
  Calls Tryz.prog 203 #[.string s,.bool false] w0 λe w'=>e= .returned (vB (aO s false))/\Ext w0 w':=by
 have hmx:maxLen=9223372036854775807:=rfl;refine enter Tryz.func203 rfl 71 Tryz.ntmps203 rfl<|sZ rfl<|seqJ λ_ aa R _=>sj λ_ U=>qZ 2 rfl<|st_if (p:=s.toList=(ByteArray.mk #[]).toList) (ai rfl) (λba=>?_) (λba=>?_)
 .refine qZ 4 rfl<|nl<|U<|cndT rfl<|sZ rfl<|ret<|R<|leave1 (v:=.bool false) rfl rfl<|?_;simp only [bP] at *;exact ⟨congrArg Ending.returned (dF (p:=aO s false) (λh=>by have ca:=h.1;have da:=h.2.1;omega)),(Hp.start No w0).x⟩
 .refine qZ 4 rfl<|nl<|U<|cnd (p:=64<s.size) rfl (λea=>?_) (λea=>?_)
  .refine sZ rfl<|ret<|R<|leave1 (v:=.bool false) rfl rfl<|?_;simp only [bP] at *;exact ⟨congrArg Ending.returned (dF (p:=aO s false) (λh=>by have ca:=h.1;have da:=h.2.1;omega)),(Hp.start No w0).x⟩
  .refine skip<|aa<|seqJ λ_ fa E _=>sj λ_ ga=>qt mv<|st_e<|ErgS (Hp.start No w0) Tryz.underlying9 rfl λM _ ha _=>nl<|ga<|blockJ λ_ _ G _ ia=>ay (α:=Nat) (λx=>[(1,.bool false),(17,.pointer (some ⟨M,0,none⟩))]) (λx ja=>Hp No w0 ja [cR M (.stringIter s x)]/\WI s false x) (λx=>s.size-x) (0) ⟨rfl,rfl,trivial⟩ ?_ ?_
   .refine ⟨(ha.pick [0] (by decide)),?_⟩;(try dsimp only);exact WI.zero
   .rintro Fa p Ga ⟨V,hp⟩;(try dsimp only at hp);intro Ha B H ka;have hd:=wL s p;have hq:=hp.1;have hmx:maxLen=9223372036854775807:=rfl;refine sj λ_ W=>st_e<|EnxS V 0 rfl rfl (λ_=>?_) (λ_ _ N=>?_)
    .refine qZ 1 rfl<|nl<|W<|seqJ λ_ _ _ la=>cndF rfl<|exit<|la<|ka _ _ _<|ia<|fa<|sZ rfl<|ret<|leave1 (v:=.bool true) rfl rfl<|?_;simp only [bP] at *;exact ⟨congrArg Ending.returned (dT (p:=aO s false) (hp.word (by omega) (by omega) (by omega))),V.x⟩
    .refine qZ 1 rfl<|nl<|W<|seqJ λ_ ma _ _=>cndT rfl<|skip<|ma<|blockJ λ_ C I _ _=>sZ rfl<|seqLK (n:=71) (ds:=[]) (α:=Bool × Bool) (λx=>[(1,.bool false),(5,vN p),(6,.int .i32 (((Utf8.decode s p).1:Nat):Int)),(7,.bool x.1),(8,.bool x.2),(17,.pointer (some ⟨M,0,none⟩))]) (λx na=>Hp No w0 na [cR M (.stringIter s (p+(Utf8.decode s p).2))]/\x.1=decide (Sm (Utf8.decode s p).1)/\x.2=decide (Gr (Utf8.decode s p).1)) ?_ ?_
     .intro Ia O Ja Ka;refine region<|qZ 2 rfl<|st_if (p:=97<=((Utf8.decode s p).1)) (ai rfl) (λoa=>?_) (λoa=>?_)
      .refine qZ 5 rfl<|st_if (p:=65<=((Utf8.decode s p).1)) (ai rfl) (λpa=>?_) (λpa=>?_)
       .refine qZ 5 rfl<|nl<|O _ (decide (((Utf8.decode s p).1)<=122),decide (((Utf8.decode s p).1)<=90)) _ ⟨rfl,rfl,rfl,rfl,rfl,rfl,trivial⟩ ⟨N,?_⟩;(try dsimp only);exact ⟨by first | exact decide_eq_decide.2 (by omega) | exact (decide_eq_true (by omega)).symm | exact (decide_eq_false (by omega)).symm,by first | exact decide_eq_decide.2 (by omega) | exact (decide_eq_true (by omega)).symm | exact (decide_eq_false (by omega)).symm⟩
       .refine qZ 5 rfl<|nl<|O _ (decide (((Utf8.decode s p).1)<=122),false) _ ⟨rfl,rfl,rfl,rfl,rfl,rfl,trivial⟩ ⟨N,?_⟩;(try dsimp only);exact ⟨by first | exact decide_eq_decide.2 (by omega) | exact (decide_eq_true (by omega)).symm | exact (decide_eq_false (by omega)).symm,by first | exact decide_eq_decide.2 (by omega) | exact (decide_eq_true (by omega)).symm | exact (decide_eq_false (by omega)).symm⟩
      .refine qZ 5 rfl<|st_if (p:=65<=((Utf8.decode s p).1)) (ai rfl) (λqa=>?_) (λqa=>?_)
       .refine qZ 5 rfl<|nl<|O _ (false,decide (((Utf8.decode s p).1)<=90)) _ ⟨rfl,rfl,rfl,rfl,rfl,rfl,trivial⟩ ⟨N,?_⟩;(try dsimp only);exact ⟨by first | exact decide_eq_decide.2 (by omega) | exact (decide_eq_true (by omega)).symm | exact (decide_eq_false (by omega)).symm,by first | exact decide_eq_decide.2 (by omega) | exact (decide_eq_true (by omega)).symm | exact (decide_eq_false (by omega)).symm⟩
       .refine qZ 5 rfl<|nl<|O _ (false,false) _ ⟨rfl,rfl,rfl,rfl,rfl,rfl,trivial⟩ ⟨N,?_⟩;(try dsimp only);exact ⟨by first | exact decide_eq_decide.2 (by omega) | exact (decide_eq_true (by omega)).symm | exact (decide_eq_false (by omega)).symm,by first | exact decide_eq_decide.2 (by omega) | exact (decide_eq_true (by omega)).symm | exact (decide_eq_false (by omega)).symm⟩
     .rintro La ⟨lo,up⟩ Ma ⟨A,⟨rfl,rfl⟩⟩;(try dsimp only at A ⊢);refine blockJ λ_ D J _ _=>sj λ_ X=>qZ 2 rfl<|st_if (p:=p=0) (ai rfl) (λra=>?_) (λra=>?_)
      .refine qZ 6 rfl<|st_gq 7 42 rfl rfl (by decide)<|qt (bF (b:=false) rfl)<|qZ 6 rfl<|nl<|X<|cnd (p:=Gr (Utf8.decode s p).1) rfl (λY=>?_) (λY=>?_)
       .refine skip<|D<|C<|B _ ((p+(Utf8.decode s p).2)) _ ⟨rfl,rfl,trivial⟩ ⟨(A.pick [0] (by decide)),?_⟩ ?_
        ·(try dsimp only);exact hp.step (by omega) (λe=>by first | (show Sm _;assumption) | (show Gr _;assumption) | omega) (λe=>by first | omega | (unfold Go.QP.Lt;omega))
        ·(try dsimp only);omega
       .refine sj λ_ L=>qZ 2 rfl<|st_if (p:=0<p) (ai rfl) (λsa=>?_) (λsa=>?_)
        .refine qZ 1 rfl<|st_gq 2 53 rfl rfl (by decide)<|st_if (p:=Sm (Utf8.decode s p).1) (ai rfl) (λta=>?_) (λta=>?_)
         .refine qZ 16 rfl<|nl<|L<|cndT rfl<|skip<|D<|C<|B _ ((p+(Utf8.decode s p).2)) _ ⟨rfl,rfl,trivial⟩ ⟨(A.pick [0] (by decide)),?_⟩ ?_
          ·(try dsimp only);exact hp.step (by omega) (λe=>by first | (show Sm _;assumption) | (show Gr _;assumption) | omega) (λe=>by first | omega | (unfold Go.QP.Lt;omega))
          ·(try dsimp only);omega
         .refine qZ 2 rfl<|st_gq 2 53 rfl rfl (by decide)<|st_if (p:=Gr (Utf8.decode s p).1) (ai rfl) (λZ=>?_) (λZ=>?_)
          .exact absurd Z (Y)
          .refine qZ 2 rfl<|st_gq 7 58 rfl rfl (by decide)<|st_if (p:=48<=((Utf8.decode s p).1)) (ai rfl) (λua=>?_) (λua=>?_)
           .refine qZ 4 rfl<|st_gq 2 53 rfl rfl (by decide)<|st_if (p:=((Utf8.decode s p).1)<=57) (ai rfl) (λva=>?_) (λva=>?_)
            .refine qZ 5 rfl<|nl<|L<|cndT rfl<|skip<|D<|C<|B _ ((p+(Utf8.decode s p).2)) _ ⟨rfl,rfl,trivial⟩ ⟨(A.pick [0] (by decide)),?_⟩ ?_
             ·(try dsimp only);exact hp.step (by omega) (λe=>by first | (show Sm _;assumption) | (show Gr _;assumption) | omega) (λe=>by first | omega | (unfold Go.QP.Lt;omega))
             ·(try dsimp only);omega
            .refine qZ 5 rfl<|nl<|L<|cnd (p:=((Utf8.decode s p).1)=95) rfl (λwa=>?_) (λwa=>?_)
             .refine skip<|D<|C<|B _ ((p+(Utf8.decode s p).2)) _ ⟨rfl,rfl,trivial⟩ ⟨(A.pick [0] (by decide)),?_⟩ ?_
              ·(try dsimp only);exact hp.step (by omega) (λe=>by first | (show Sm _;assumption) | (show Gr _;assumption) | omega) (λe=>by first | omega | (unfold Go.QP.Lt;omega))
              ·(try dsimp only);omega
             .refine sZ rfl<|ret<|J<|I<|H _ _<|G<|E<|leave1 (v:=.bool false) rfl rfl<|?_;simp only [bP] at *;exact ⟨congrArg Ending.returned (dF (p:=aO s false) (WI.bad (p:=p) (by omega) (by first | exact .inl ⟨by omega,λh=>by first | exact absurd (show Sm _ from h) ‹_› | exact absurd (show Gr _ from h) ‹_›⟩ | exact .inr ⟨by omega,by unfold Go.QP.Lt;omega⟩))),A.x⟩
           .refine qZ 10 rfl<|nl<|L<|cnd (p:=((Utf8.decode s p).1)=95) rfl (λxa=>?_) (λxa=>?_)
            .refine skip<|D<|C<|B _ ((p+(Utf8.decode s p).2)) _ ⟨rfl,rfl,trivial⟩ ⟨(A.pick [0] (by decide)),?_⟩ ?_
             ·(try dsimp only);exact hp.step (by omega) (λe=>by first | (show Sm _;assumption) | (show Gr _;assumption) | omega) (λe=>by first | omega | (unfold Go.QP.Lt;omega))
             ·(try dsimp only);omega
            .refine sZ rfl<|ret<|J<|I<|H _ _<|G<|E<|leave1 (v:=.bool false) rfl rfl<|?_;simp only [bP] at *;exact ⟨congrArg Ending.returned (dF (p:=aO s false) (WI.bad (p:=p) (by omega) (by first | exact .inl ⟨by omega,λh=>by first | exact absurd (show Sm _ from h) ‹_› | exact absurd (show Gr _ from h) ‹_›⟩ | exact .inr ⟨by omega,by unfold Go.QP.Lt;omega⟩))),A.x⟩
        .refine qZ 18 rfl<|nl<|L<|cndF rfl<|sZ rfl<|ret<|J<|I<|H _ _<|G<|E<|leave1 (v:=.bool false) rfl rfl<|?_;simp only [bP] at *;exact ⟨congrArg Ending.returned (dF (p:=aO s false) (WI.bad (p:=p) (by omega) (by first | exact .inl ⟨by omega,λh=>by first | exact absurd (show Sm _ from h) ‹_› | exact absurd (show Gr _ from h) ‹_›⟩ | exact .inr ⟨by omega,by unfold Go.QP.Lt;omega⟩))),A.x⟩
      .refine qZ 13 rfl<|nl<|X<|cndF rfl<|sj λ_ K=>qZ 2 rfl<|st_if (p:=0<p) (ai rfl) (λya=>?_) (λya=>?_)
       .refine qZ 1 rfl<|st_gq 2 53 rfl rfl (by decide)<|st_if (p:=Sm (Utf8.decode s p).1) (ai rfl) (λza=>?_) (λza=>?_)
        .refine qZ 16 rfl<|nl<|K<|cndT rfl<|skip<|D<|C<|B _ ((p+(Utf8.decode s p).2)) _ ⟨rfl,rfl,trivial⟩ ⟨(A.pick [0] (by decide)),?_⟩ ?_
         ·(try dsimp only);exact hp.step (by omega) (λe=>by first | (show Sm _;assumption) | (show Gr _;assumption) | omega) (λe=>by first | omega | (unfold Go.QP.Lt;omega))
         ·(try dsimp only);omega
        .refine qZ 2 rfl<|st_gq 2 53 rfl rfl (by decide)<|st_if (p:=Gr (Utf8.decode s p).1) (ai rfl) (λAa=>?_) (λAa=>?_)
         .refine qZ 13 rfl<|nl<|K<|cndT rfl<|skip<|D<|C<|B _ ((p+(Utf8.decode s p).2)) _ ⟨rfl,rfl,trivial⟩ ⟨(A.pick [0] (by decide)),?_⟩ ?_
          ·(try dsimp only);exact hp.step (by omega) (λe=>by first | (show Sm _;assumption) | (show Gr _;assumption) | omega) (λe=>by first | omega | (unfold Go.QP.Lt;omega))
          ·(try dsimp only);omega
         .refine qZ 2 rfl<|st_gq 7 58 rfl rfl (by decide)<|st_if (p:=48<=((Utf8.decode s p).1)) (ai rfl) (λBa=>?_) (λBa=>?_)
          .refine qZ 4 rfl<|st_gq 2 53 rfl rfl (by decide)<|st_if (p:=((Utf8.decode s p).1)<=57) (ai rfl) (λCa=>?_) (λCa=>?_)
           .refine qZ 5 rfl<|nl<|K<|cndT rfl<|skip<|D<|C<|B _ ((p+(Utf8.decode s p).2)) _ ⟨rfl,rfl,trivial⟩ ⟨(A.pick [0] (by decide)),?_⟩ ?_
            ·(try dsimp only);exact hp.step (by omega) (λe=>by first | (show Sm _;assumption) | (show Gr _;assumption) | omega) (λe=>by first | omega | (unfold Go.QP.Lt;omega))
            ·(try dsimp only);omega
           .refine qZ 5 rfl<|nl<|K<|cnd (p:=((Utf8.decode s p).1)=95) rfl (λDa=>?_) (λDa=>?_)
            .refine skip<|D<|C<|B _ ((p+(Utf8.decode s p).2)) _ ⟨rfl,rfl,trivial⟩ ⟨(A.pick [0] (by decide)),?_⟩ ?_
             ·(try dsimp only);exact hp.step (by omega) (λe=>by first | (show Sm _;assumption) | (show Gr _;assumption) | omega) (λe=>by first | omega | (unfold Go.QP.Lt;omega))
             ·(try dsimp only);omega
            .refine sZ rfl<|ret<|J<|I<|H _ _<|G<|E<|leave1 (v:=.bool false) rfl rfl<|?_;simp only [bP] at *;exact ⟨congrArg Ending.returned (dF (p:=aO s false) (WI.bad (p:=p) (by omega) (by first | exact .inl ⟨by omega,λh=>by first | exact absurd (show Sm _ from h) ‹_› | exact absurd (show Gr _ from h) ‹_›⟩ | exact .inr ⟨by omega,by unfold Go.QP.Lt;omega⟩))),A.x⟩
          .refine qZ 10 rfl<|nl<|K<|cnd (p:=((Utf8.decode s p).1)=95) rfl (λEa=>?_) (λEa=>?_)
           .refine skip<|D<|C<|B _ ((p+(Utf8.decode s p).2)) _ ⟨rfl,rfl,trivial⟩ ⟨(A.pick [0] (by decide)),?_⟩ ?_
            ·(try dsimp only);exact hp.step (by omega) (λe=>by first | (show Sm _;assumption) | (show Gr _;assumption) | omega) (λe=>by first | omega | (unfold Go.QP.Lt;omega))
            ·(try dsimp only);omega
           .refine sZ rfl<|ret<|J<|I<|H _ _<|G<|E<|leave1 (v:=.bool false) rfl rfl<|?_;simp only [bP] at *;exact ⟨congrArg Ending.returned (dF (p:=aO s false) (WI.bad (p:=p) (by omega) (by first | exact .inl ⟨by omega,λh=>by first | exact absurd (show Sm _ from h) ‹_› | exact absurd (show Gr _ from h) ‹_›⟩ | exact .inr ⟨by omega,by unfold Go.QP.Lt;omega⟩))),A.x⟩
       .refine qZ 18 rfl<|nl<|K<|cndF rfl<|sZ rfl<|ret<|J<|I<|H _ _<|G<|E<|leave1 (v:=.bool false) rfl rfl<|?_;simp only [bP] at *;exact ⟨congrArg Ending.returned (dF (p:=aO s false) (WI.bad (p:=p) (by omega) (by first | exact .inl ⟨by omega,λh=>by first | exact absurd (show Sm _ from h) ‹_› | exact absurd (show Gr _ from h) ‹_›⟩ | exact .inr ⟨by omega,by unfold Go.QP.Lt;omega⟩))),A.x⟩
theorem T.cf203:CF Tryz.prog 203:=λ_ _=>by kernel_rfl
theorem T.cf140:CF Tryz.prog 140:=λ_ _=>by kernel_rfl
theorem T.cf139:CF Tryz.prog 139:=λ_ _=>by kernel_rfl
theorem T.cf204:CF Tryz.prog 204:=λ_ _=>by kernel_rfl
theorem Cj (s:ByteArray) (w0:World) :
  Calls Tryz.prog 137 #[.string s] w0 λe w'=>e= .returned (vB (kind s=1))/\Ext w0 w':=by
 refine enter Tryz.func137 rfl 10 Tryz.ntmps137 rfl<|sZ rfl<|seqJ λ_ G A _=>sZ rfl<|blockJ λ_ H B _ _=>seqJ λ_ C _ _=>sZ rfl<|cnd (p:=s.toList=(ByteArray.mk #[105,110,112,117,116]).toList) rfl (λD=>?_) (λD=>?_)
 .exact skip<|C<|cndY (p:=s.toList=(ByteArray.mk #[105,110,112,117,116]).toList) rfl (not_not_intro D)<|sZ rfl<|ret<|B<|A<|leave1 (v:=.bool false) rfl rfl<|⟨congrArg Ending.returned (dF (p:=kind s=1) (λh=>absurd ((bK s).1 h).2 (by unfold JJ;first | exact not_not_intro (.inl ‹_›) | exact not_not_intro (.inr (.inl ‹_›)) | exact not_not_intro (.inr (.inr ‹_›))))),(Hp.start No w0).x⟩
 .refine sZ rfl<|cnd (p:=s.toList=(ByteArray.mk #[111,117,116,112,117,116]).toList) rfl (λE=>?_) (λE=>?_)
  .exact skip<|C<|cndY (p:=s.toList=(ByteArray.mk #[111,117,116,112,117,116]).toList) rfl (not_not_intro E)<|sZ rfl<|ret<|B<|A<|leave1 (v:=.bool false) rfl rfl<|⟨congrArg Ending.returned (dF (p:=kind s=1) (λh=>absurd ((bK s).1 h).2 (by unfold JJ;first | exact not_not_intro (.inl ‹_›) | exact not_not_intro (.inr (.inl ‹_›)) | exact not_not_intro (.inr (.inr ‹_›))))),(Hp.start No w0).x⟩
  .refine rZ rfl<|C<|cnd (p:=s.toList=(ByteArray.mk #[110,111,116]).toList) rfl (λI=>?_) (λI=>?_)
   .exact sZ rfl<|ret<|B<|A<|leave1 (v:=.bool false) rfl rfl<|⟨congrArg Ending.returned (dF (p:=kind s=1) (λh=>absurd ((bK s).1 h).2 (by unfold JJ;first | exact not_not_intro (.inl ‹_›) | exact not_not_intro (.inr (.inl ‹_›)) | exact not_not_intro (.inr (.inr ‹_›))))),(Hp.start No w0).x⟩
   .refine skip<|H<|G<|sj λ_ J=>qt mv<|cl T.cf203 (Gw s _) rfl λ_ _ ⟨er,K⟩=>⟨_,er,?_⟩;have L:=(Hp.start No w0).ext K;exact qt asg<|nl<|J<|ret<|leave1 (v:=vB (aO s true)) rfl rfl<|⟨congrArg Ending.returned (dq (q:=kind s=1) (⟨λh=>(bK s).2 ⟨h,λq=>by rcases q with q | q | q <;> exact absurd q ‹_›⟩,λh=>((bK s).1 h).1⟩)),L.x⟩
theorem vU (z:Tm) (w0:World) :
  Calls Tryz.prog 140 #[.agg (eT.enc z).toArray] w0 λe w'=>e= .returned (vB (kI z))/\Ext w0 w':=by
 refine enter Tryz.func140 rfl 12 Tryz.ntmps140 rfl<|sj λ_ B=>st_e<|Ebx (v:=.agg #[vB (z.1=true),.string z.2]) (Hp.start No w0) rfl λ_ _ A _=>qt asg<|nl<|B<|seqJ λ_ C D _=>sL (.b A 0 0 rfl .z) rfl rfl<|cnd (p:=z.1=true) rfl (λE=>?_) (λE=>?_)
 .refine sj λ_ G=>qR 2 (.b A 0 1 rfl .z) rfl rfl<|cl T.cf203 (EH z.2 _) rfl λ_ _ ⟨er,H⟩=>⟨_,er,?_⟩;have I:=A.ext H;exact qt asg<|nl<|G<|ret<|D<|leave1 (v:=vB (aO z.2 false)) rfl rfl<|⟨congrArg Ending.returned (dq (q:=kI z) (⟨λh=>by first | exact .inl ⟨by assumption,(kX z.2).2 h⟩ | exact .inr ⟨by assumption,h⟩,λh=>by first | exact (kX z.2).1 (h.elim (λq=>q.2) λq=>absurd ‹_› q.1) | exact h.elim (λq=>absurd q.1 ‹_›) λq=>q.2⟩)),I.x⟩
 .exact skip<|C<|sL (.b A 0 1 rfl .z) rfl rfl<|ret<|leave1 (v:=vB (z.2.size<=1024)) rfl rfl<|⟨congrArg Ending.returned (dq (q:=kI z) (⟨λh=>by first | exact .inl ⟨by assumption,(kX z.2).2 h⟩ | exact .inr ⟨by assumption,h⟩,λh=>by first | exact (kX z.2).1 (h.elim (λq=>q.2) λq=>absurd ‹_› q.1) | exact h.elim (λq=>absurd q.1 ‹_›) λq=>q.2⟩)),A.x⟩
theorem K6 (z:Tm) (w0:World) :
  Calls Tryz.prog 139 #[.agg (eT.enc z).toArray] w0 λe w'=>e= .returned (vB (¬ kI z))/\Ext w0 w':=by
 refine enter Tryz.func139 rfl 6 Tryz.ntmps139 rfl<|sj λ_ B=>st_e<|Ebx (v:=.agg #[vB (z.1=true),.string z.2]) (Hp.start No w0) rfl λ_ _ A _=>qt asg<|nl<|B<|sj λ_ C=>qR 1 (.d A 0 0 2 rfl .z) rfl rfl<|cl T.cf140 (vU z _) rfl λ_ _ ⟨er,D⟩=>⟨_,er,?_⟩;have E:=A.ext D;exact qt (aV rfl)<|qt asg<|nl<|C<|ret<|leave1 (v:=vB (¬ (kI z))) rfl rfl<|⟨congrArg Ending.returned (dq (q:=¬ kI z) (Iff.rfl)),E.x⟩
theorem Gp (xs:List Tm) (a:Option Addr) (c:Nat) (w0:World) (hs:Srm eT w0.heap a xs.length c xs) (hl:xs.length<=4398046511104) :
  Calls Tryz.prog 204 #[.slice a xs.length c,.func (.func 139) #[] #[]] w0 λe w'=>∃ k:Int,e= .returned (.int .i64 k)/\(0<=k↔¬ (∀ y ∈ xs,kI y))/\Ext w0 w':=by
 have hmx:maxLen=9223372036854775807:=rfl;refine enter Tryz.func204 rfl 19 Tryz.ntmps204 rfl<|sZ rfl<|seqJ λ_ D E _=>sZ rfl<|blockJ λ_ _ G _ H=>ay (α:=Nat) (λx=>[(0,.slice a xs.length c),(1,.func (.func 139) #[] #[]),(7,vN xs.length),(8,vN x)]) (λx I=>Hp No w0 I []/\x<=xs.length/\∀ q,q<x->kI (el xs q)) (λx=>xs.length-x) (0) ⟨rfl,rfl,rfl,rfl,trivial⟩ ?_ ?_
 .refine ⟨((Hp.start No w0).pick [] (by decide)),?_⟩;(try dsimp only);exact ⟨Nat.zero_le _,λq h=>absurd h (Nat.not_lt_zero _)⟩
 .rintro Z i aa ⟨A,⟨hi,hq⟩⟩;(try dsimp only at hi hq);intro ba J K L;refine sZ rfl<|seqJ λ_ M _ N=>cnd (p:=i<xs.length) rfl (λO=>?_) (λO=>?_)
  .refine skip<|M<|seqJ λ_ R U _=>blockJ λ_ V W _ _=>sZ rfl<|sj λ_ X=>qR 5 (.e (hs.e A) (i:=i) (by omega) .z) rfl rfl<|clv0 T.cf139 rfl (K6 (el xs i) _) rfl λ_ _ ⟨er,Y⟩=>⟨_,er,?_⟩;have C:=A.ext Y;refine nl<|X<|cnd (p:=¬ kI (el xs i)) rfl (λB=>?_) (λB=>?_)
   .exact sZ rfl<|ret<|W<|U<|K _ _<|G<|E<|leave1 (v:=vN i) rfl rfl<|⟨_,rfl,⟨λ_ h=>B (h _ (ak (by omega))),λ_=>by omega⟩,C.x⟩
   .refine skip<|V<|R<|rL (.a1 (by omega) .z) rfl rfl<|J _ ((i+1)) _ ⟨rfl,rfl,rfl,rfl,trivial⟩ ⟨(C.pick [] (by decide)),?_⟩ ?_
    ·(try dsimp only);exact ⟨by omega,λq h=>(Nat.lt_or_ge q i).elim (hq q) λ_=>(by rw [show q=i by omega];exact (Decidable.of_not_not B))⟩
    ·(try dsimp only);omega
  .exact exit<|N<|L _ _ _<|H<|D<|sZ rfl<|ret<|leave1 (v:=.int .i64 (-1)) rfl rfl<|⟨_,rfl,⟨λh=>absurd h (by decide),λh=>absurd (kH λj hj=>hq j (by omega)) h⟩,A.x⟩
theorem y7 (xs:List Tm) (a:Option Addr) (c:Nat) (w0:World) (hs:Srm eT w0.heap a xs.length c xs) (hl:xs.length<=4398046511104) :
  Calls Tryz.prog 138 #[.slice a xs.length c,.func (.func 139) #[] #[]] w0 λe w'=>e= .returned (vB (¬ (∀ y ∈ xs,kI y)))/\Ext w0 w':=by
 refine enter Tryz.func138 rfl 9 Tryz.ntmps138 rfl<|sZ rfl<|sj λ_ A=>qt mv<|qt mv<|cl T.cf204 (Gp xs a c _ hs hl) rfl λ_ _ ⟨k,er,hk,B⟩=>⟨_,er,?_⟩;have C:=(Hp.start No w0).ext B;exact qR 2 (.i .z) rfl rfl<|nl<|A<|ret<|leave1 (v:=vB (0<=k)) rfl rfl<|⟨congrArg Ending.returned (dq (q:=¬ (∀ y ∈ xs,kI y)) (hk)),C.x⟩
theorem T.cf137:CF Tryz.prog 137:=λ_ _=>by kernel_rfl
theorem T.cf138:CF Tryz.prog 138:=λ_ _=>by kernel_rfl
theorem T.cf82:CF Tryz.prog 82:=λ_ _=>by kernel_rfl
theorem T.eqT35:EQT Tryz.prog 35:=⟨⟨_,_,Tryz.underlying35,rfl,rfl,rfl,rfl,Tryz.underlying4,Tryz.underlying9⟩,by kernel_rfl,by kernel_rfl⟩
theorem T.cf85:CF Tryz.prog 85:=λ_ _=>by kernel_rfl
theorem T.cf84:CF Tryz.prog 84:=λ_ _=>by kernel_rfl
theorem T.cf141:CF Tryz.prog 141:=λ_ _=>by kernel_rfl
theorem T.cf83:CF Tryz.prog 83:=λ_ _=>by kernel_rfl
theorem BD (p:ByteArray) (xs:List Tm) (a:Option Addr) (c:Nat) (w0:World) (hs:Srm eT w0.heap a xs.length c xs) (hl:xs.length<=4398046511104) :
  Calls Tryz.prog 82 #[.agg #[.string p,.slice a xs.length c]] w0 λe w'=>e= .returned (vB (rD p xs))/\Ext w0 w':=by
 refine enter Tryz.func82 rfl 18 Tryz.ntmps82 rfl<|sj λ_ D=>st_e<|Ebx (v:=.agg #[.string p,.slice a xs.length c]) (Hp.start No w0) rfl λ_ _ C _=>qt asg<|nl<|D<|sj λ_ B=>qR 2 (.b C 0 0 rfl .z) rfl rfl<|cl T.cf137 (Cj p _) rfl λ_ _ ⟨er,E⟩=>⟨_,er,?_⟩;have A:=C.ext E;refine st_if (p:=kind p=1) (ai rfl) (λG=>?_) (λG=>?_)
 .refine qR 5 (.b A 0 1 rfl .z) rfl rfl<|st_if (p:=xs.length<=16) (ai rfl) (λH=>?_) (λH=>?_)
  .refine qR 2 (.b A 0 1 rfl .z) rfl rfl<|st_gq 9 12 rfl rfl (by decide)<|cl T.cf138 (y7 xs a c _ (hs.ext A.x) hl) rfl λ_ _ ⟨er,I⟩=>⟨_,er,?_⟩;have J:=A.ext I;exact st_gq 9 12 rfl rfl (by decide)<|qt (aV rfl)<|qZ 2 rfl<|nl<|B<|ret<|leave1 (v:=vB (¬ (¬ (∀ y ∈ xs,kI y)))) rfl rfl<|⟨congrArg Ending.returned (dq (q:=rD p xs) (⟨λh=>⟨by assumption,by omega,Decidable.of_not_not h⟩,λh=>not_not_intro h.2.2⟩)),J.x⟩
  .exact qZ 6 rfl<|nl<|B<|ret<|leave1 (v:=.bool false) rfl rfl<|⟨congrArg Ending.returned (dF (p:=rD p xs) (λh=>by first | exact absurd h.1 ‹_› | exact absurd h.2.2 ‹_› | exact absurd h.2.1 (by omega))),A.x⟩
 .exact qZ 12 rfl<|nl<|B<|ret<|leave1 (v:=.bool false) rfl rfl<|⟨congrArg Ending.returned (dF (p:=rD p xs) (λh=>by first | exact absurd h.1 ‹_› | exact absurd h.2.2 ‹_› | exact absurd h.2.1 (by omega))),A.x⟩
theorem EM (z:Rw) (w0:World) (hs:lY w0.heap z) (hl:z.1.args.length<=4398046511104) :
  Calls Tryz.prog 85 #[.agg (eL.enc z).toArray] w0 λe w'=>e= .returned (vB (bm z.1))/\Ext w0 w':=by
 refine enter Tryz.func85 rfl 47 Tryz.ntmps85 rfl<|sj λ_ aa=>st_e<|Ebx (v:=.agg (eL.enc z).toArray) (Hp.start No w0) rfl λ_ _ A _=>qt asg<|nl<|aa<|seqJ λ_ ba B _=>sL (.b A 0 0 rfl .z) rfl rfl<|blockJ λ_ _ C _ ca=>seqJ λ_ Y H da=>blockJ λ_ ea I fa ga=>blockJ λ_ _ J Z ha=>seqJ λ_ ia _ M=>blockJ λ_ _ _ N ja=>seqJ λ_ ka _ O=>seqJ λ_ la _ ma=>sL (.i .z) rfl rfl<|cnd (p:=z.1.kind=3) rfl (λna=>?_) (λna=>?_)
 .refine exit<|ma<|O<|ja<|ia<|seqJ λ_ _ K _=>sj λ_ L=>qR 2 (.d A 0 3 2 rfl .z) rfl rfl<|cl T.cf140 (vU z.1.left _) rfl λ_ _ ⟨er,oa⟩=>⟨_,er,?_⟩;have R:=A.ext oa;refine st_if (p:=kI z.1.left) (ai rfl) (λpa=>?_) (λpa=>?_)
  .refine qR 2 (.d R 0 5 2 rfl .z) rfl rfl<|st_gq 3 14 rfl rfl (by decide)<|cl T.cf140 (vU z.1.right _) rfl λ_ _ ⟨er,qa⟩=>⟨_,er,?_⟩;have D:=R.ext qa;refine qt (wj rfl)<|st_if (p:=kI z.1.right) (ai rfl) (λra=>?_) (λra=>?_)
   .refine qR 5 (.b D 0 1 rfl .z) rfl rfl<|st_if (p:=z.1.pred.toList=(ByteArray.mk #[]).toList) (ai rfl) (λsa=>?_) (λsa=>?_)
    .refine qR 7 (.b D 0 2 rfl .z) rfl rfl<|nl<|L<|ret<|K<|J<|I<|H<|C<|B<|leave1 (v:=vB (z.1.args.length=0)) rfl rfl<|?_;(try simp only [fQ] at *);exact ⟨congrArg Ending.returned (dq (q:=bm z.1) (⟨λh=>by first | exact jO ‹_› ‹_› h (by omega) | exact .inr ⟨by assumption,by assumption,by assumption,aC ‹_›,List.eq_nil_of_length_eq_zero (by omega)⟩,λh=>by first | exact (az h ‹_›).2.2.1 | (rw [(aG h ‹_›).2.2.2];rfl)⟩)),D.x⟩
    .refine qZ 7 rfl<|nl<|L<|ret<|K<|J<|I<|H<|C<|B<|leave1 (v:=.bool false) rfl rfl<|?_;(try simp only [fQ] at *);exact ⟨congrArg Ending.returned (dF (p:=bm z.1) (λh=>by first | exact absurd (aG h ‹_›).1 ‹_› | exact absurd (aG h ‹_›).2.1 ‹_› | exact absurd (congrArg ByteArray.toList (aG h ‹_›).2.2.1) ‹_› | exact absurd (az h ‹_›).1 ‹_› | exact absurd (az h ‹_›).2.1 ‹_› | exact absurd (az h ‹_›).2.2.1 ‹_› | (have:=(az h ‹_›).2.2.2;omega))),D.x⟩
   .refine qZ 13 rfl<|nl<|L<|ret<|K<|J<|I<|H<|C<|B<|leave1 (v:=.bool false) rfl rfl<|?_;(try simp only [fQ] at *);exact ⟨congrArg Ending.returned (dF (p:=bm z.1) (λh=>by first | exact absurd (aG h ‹_›).1 ‹_› | exact absurd (aG h ‹_›).2.1 ‹_› | exact absurd (congrArg ByteArray.toList (aG h ‹_›).2.2.1) ‹_› | exact absurd (az h ‹_›).1 ‹_› | exact absurd (az h ‹_›).2.1 ‹_› | exact absurd (az h ‹_›).2.2.1 ‹_› | (have:=(az h ‹_›).2.2.2;omega))),D.x⟩
  .refine qZ 18 rfl<|nl<|L<|ret<|K<|J<|I<|H<|C<|B<|leave1 (v:=.bool false) rfl rfl<|?_;(try simp only [fQ] at *);exact ⟨congrArg Ending.returned (dF (p:=bm z.1) (λh=>by first | exact absurd (aG h ‹_›).1 ‹_› | exact absurd (aG h ‹_›).2.1 ‹_› | exact absurd (congrArg ByteArray.toList (aG h ‹_›).2.2.1) ‹_› | exact absurd (az h ‹_›).1 ‹_› | exact absurd (az h ‹_›).2.1 ‹_› | exact absurd (az h ‹_›).2.2.1 ‹_› | (have:=(az h ‹_›).2.2.2;omega))),R.x⟩
 .refine skip<|la<|seqJ λ_ ta _ ua=>sL (.i .z) rfl rfl<|cnd (p:=z.1.kind=2) rfl (λva=>?_) (λva=>?_)
  .refine exit<|ua<|O<|N rfl<|M<|ha<|ea<|Y<|seqJ λ_ _ U _=>sj λ_ V=>qR 2 (.d A 0 1 2 rfl .z) rfl rfl<|cl T.cf82 (BD z.1.pred z.1.args z.2.1 z.2.2 _ (Srm.ext hs A.x) hl) rfl λ_ _ ⟨er,wa⟩=>⟨_,er,?_⟩;have E:=A.ext wa;refine st_if (p:=rD z.1.pred z.1.args) (ai rfl) (λxa=>?_) (λxa=>?_)
   .refine qR 2 (.d E 0 3 2 rfl .z) rfl rfl<|st_gq 3 35 rfl rfl (by decide)<|qt (v:=.agg #[.bool false,.string ByteArray.empty]) (aw (λ_=>by kernel_rfl))<|st_gq 3 35 rfl rfl (by decide)<|qt (gG T.eqT35 rfl rfl)<|qt (wj rfl)<|st_if (p:=(decide (z.1.left.1=true),z.1.left.2)=(false,ByteArray.empty)) (ai rfl) (λya=>?_) (λya=>?_)
    .refine qR 2 (.d E 0 5 2 rfl .z) rfl rfl<|st_gq 9 41 rfl rfl (by decide)<|qt (v:=.agg #[.bool false,.string ByteArray.empty]) (aw (λ_=>by kernel_rfl))<|st_gq 9 41 rfl rfl (by decide)<|qt (gG T.eqT35 rfl rfl)<|qZ 2 rfl<|nl<|V<|ret<|U<|C<|B<|leave1 (v:=vB ((decide (z.1.right.1=true),z.1.right.2)=(false,ByteArray.empty))) rfl rfl<|?_;(try simp only [fQ] at *);exact ⟨congrArg Ending.returned (dq (q:=bm z.1) (⟨λh=>by first | exact jO ‹_› ‹_› h (by omega) | exact .inr ⟨by assumption,by assumption,by assumption,aC ‹_›,List.eq_nil_of_length_eq_zero (by omega)⟩,λh=>by first | exact (az h ‹_›).2.2.1 | (rw [(aG h ‹_›).2.2.2];rfl)⟩)),E.x⟩
    .refine qZ 6 rfl<|nl<|V<|ret<|U<|C<|B<|leave1 (v:=.bool false) rfl rfl<|?_;(try simp only [fQ] at *);exact ⟨congrArg Ending.returned (dF (p:=bm z.1) (λh=>by first | exact absurd (aG h ‹_›).1 ‹_› | exact absurd (aG h ‹_›).2.1 ‹_› | exact absurd (congrArg ByteArray.toList (aG h ‹_›).2.2.1) ‹_› | exact absurd (az h ‹_›).1 ‹_› | exact absurd (az h ‹_›).2.1 ‹_› | exact absurd (az h ‹_›).2.2.1 ‹_› | (have:=(az h ‹_›).2.2.2;omega))),E.x⟩
   .refine qZ 12 rfl<|nl<|V<|ret<|U<|C<|B<|leave1 (v:=.bool false) rfl rfl<|?_;(try simp only [fQ] at *);exact ⟨congrArg Ending.returned (dF (p:=bm z.1) (λh=>by first | exact absurd (aG h ‹_›).1 ‹_› | exact absurd (aG h ‹_›).2.1 ‹_› | exact absurd (congrArg ByteArray.toList (aG h ‹_›).2.2.1) ‹_› | exact absurd (az h ‹_›).1 ‹_› | exact absurd (az h ‹_›).2.1 ‹_› | exact absurd (az h ‹_›).2.2.1 ‹_› | (have:=(az h ‹_›).2.2.2;omega))),E.x⟩
  .refine skip<|ta<|sL (.i .z) rfl rfl<|cnd (p:=z.1.kind=1) rfl (λza=>?_) (λza=>?_)
   .refine exit<|O<|N rfl<|M<|Z rfl<|ga<|Y<|seqJ λ_ _ W _=>sj λ_ X=>qR 2 (.d A 0 1 2 rfl .z) rfl rfl<|cl T.cf82 (BD z.1.pred z.1.args z.2.1 z.2.2 _ (Srm.ext hs A.x) hl) rfl λ_ _ ⟨er,Aa⟩=>⟨_,er,?_⟩;have G:=A.ext Aa;refine st_if (p:=rD z.1.pred z.1.args) (ai rfl) (λBa=>?_) (λBa=>?_)
    .refine qR 2 (.d G 0 3 2 rfl .z) rfl rfl<|st_gq 3 35 rfl rfl (by decide)<|qt (v:=.agg #[.bool false,.string ByteArray.empty]) (aw (λ_=>by kernel_rfl))<|st_gq 3 35 rfl rfl (by decide)<|qt (gG T.eqT35 rfl rfl)<|qt (wj rfl)<|st_if (p:=(decide (z.1.left.1=true),z.1.left.2)=(false,ByteArray.empty)) (ai rfl) (λCa=>?_) (λCa=>?_)
     .refine qR 2 (.d G 0 5 2 rfl .z) rfl rfl<|st_gq 9 41 rfl rfl (by decide)<|qt (v:=.agg #[.bool false,.string ByteArray.empty]) (aw (λ_=>by kernel_rfl))<|st_gq 9 41 rfl rfl (by decide)<|qt (gG T.eqT35 rfl rfl)<|qZ 2 rfl<|nl<|X<|ret<|W<|C<|B<|leave1 (v:=vB ((decide (z.1.right.1=true),z.1.right.2)=(false,ByteArray.empty))) rfl rfl<|?_;(try simp only [fQ] at *);exact ⟨congrArg Ending.returned (dq (q:=bm z.1) (⟨λh=>by first | exact jO ‹_› ‹_› h (by omega) | exact .inr ⟨by assumption,by assumption,by assumption,aC ‹_›,List.eq_nil_of_length_eq_zero (by omega)⟩,λh=>by first | exact (az h ‹_›).2.2.1 | (rw [(aG h ‹_›).2.2.2];rfl)⟩)),G.x⟩
     .refine qZ 6 rfl<|nl<|X<|ret<|W<|C<|B<|leave1 (v:=.bool false) rfl rfl<|?_;(try simp only [fQ] at *);exact ⟨congrArg Ending.returned (dF (p:=bm z.1) (λh=>by first | exact absurd (aG h ‹_›).1 ‹_› | exact absurd (aG h ‹_›).2.1 ‹_› | exact absurd (congrArg ByteArray.toList (aG h ‹_›).2.2.1) ‹_› | exact absurd (az h ‹_›).1 ‹_› | exact absurd (az h ‹_›).2.1 ‹_› | exact absurd (az h ‹_›).2.2.1 ‹_› | (have:=(az h ‹_›).2.2.2;omega))),G.x⟩
    .refine qZ 12 rfl<|nl<|X<|ret<|W<|C<|B<|leave1 (v:=.bool false) rfl rfl<|?_;(try simp only [fQ] at *);exact ⟨congrArg Ending.returned (dF (p:=bm z.1) (λh=>by first | exact absurd (aG h ‹_›).1 ‹_› | exact absurd (aG h ‹_›).2.1 ‹_› | exact absurd (congrArg ByteArray.toList (aG h ‹_›).2.2.1) ‹_› | exact absurd (az h ‹_›).1 ‹_› | exact absurd (az h ‹_›).2.1 ‹_› | exact absurd (az h ‹_›).2.2.1 ‹_› | (have:=(az h ‹_›).2.2.2;omega))),G.x⟩
   .refine skip<|ka<|exit<|N rfl<|M<|Z rfl<|fa rfl<|da<|ca<|ba<|sZ rfl<|ret<|leave1 (v:=.bool false) rfl rfl<|?_;(try simp only [fQ] at *);exact ⟨congrArg Ending.returned (dF (p:=bm z.1) (λh=>by first | exact absurd (aG h ‹_›).1 ‹_› | exact absurd (aG h ‹_›).2.1 ‹_› | exact absurd (congrArg ByteArray.toList (aG h ‹_›).2.2.1) ‹_› | exact absurd (az h ‹_›).1 ‹_› | exact absurd (az h ‹_›).2.1 ‹_› | exact absurd (az h ‹_›).2.2.1 ‹_› | (have:=(az h ‹_›).2.2.2;omega))),A.x⟩
theorem Pj (z:Rw) (w0:World) (hs:lY w0.heap z) (hl:z.1.args.length<=4398046511104) :
  Calls Tryz.prog 84 #[.agg (eL.enc z).toArray] w0 λe w'=>e= .returned (vB (¬ bm z.1))/\Ext w0 w':=by
 refine enter Tryz.func84 rfl 6 Tryz.ntmps84 rfl<|sj λ_ B=>st_e<|Ebx (v:=.agg (eL.enc z).toArray) (Hp.start No w0) rfl λ_ _ A _=>qt asg<|nl<|B<|sj λ_ C=>qR 1 (.d A 0 0 7 rfl .z) rfl rfl<|cl T.cf85 (EM z _ (Srm.ext hs A.x) hl) rfl λ_ _ ⟨er,D⟩=>⟨_,er,?_⟩;have E:=A.ext D;exact qt (aV rfl)<|qt asg<|nl<|C<|ret<|leave1 (v:=vB (¬ (bm z.1))) rfl rfl<|⟨congrArg Ending.returned (dq (q:=¬ bm z.1) (Iff.rfl)),E.x⟩
theorem IR (xs:List Rw) (a:Option Addr) (c:Nat) (w0:World) (hs:Lits w0.heap a xs.length c xs) (hl:xs.length<=4398046511104) (hb:∀ q,q<xs.length->(el xs q).1.args.length<=4398046511104) :
  Calls Tryz.prog 141 #[.slice a xs.length c,.func (.func 84) #[] #[]] w0 λe w'=>∃ k:Int,e= .returned (.int .i64 k)/\(0<=k↔¬ (∀ y ∈ xs,bm y.1))/\Ext w0 w':=by
 have hmx:maxLen=9223372036854775807:=rfl;refine enter Tryz.func141 rfl 19 Tryz.ntmps141 rfl<|sZ rfl<|seqJ λ_ D E _=>sZ rfl<|blockJ λ_ _ G _ H=>ay (α:=Nat) (λx=>[(0,.slice a xs.length c),(1,.func (.func 84) #[] #[]),(7,vN xs.length),(8,vN x)]) (λx I=>Hp No w0 I []/\x<=xs.length/\∀ q,q<x->bm (el xs q).1) (λx=>xs.length-x) (0) ⟨rfl,rfl,rfl,rfl,trivial⟩ ?_ ?_
 .refine ⟨((Hp.start No w0).pick [] (by decide)),?_⟩;(try dsimp only);exact ⟨Nat.zero_le _,λq h=>absurd h (Nat.not_lt_zero _)⟩
 .rintro Z i aa ⟨A,⟨hi,hq⟩⟩;(try dsimp only at hi hq);intro ba J K L;refine sZ rfl<|seqJ λ_ M _ N=>cnd (p:=i<xs.length) rfl (λO=>?_) (λO=>?_)
  .refine skip<|M<|seqJ λ_ R U _=>blockJ λ_ V W _ _=>sZ rfl<|sj λ_ X=>qR 5 (.e (hs.1.e A) (i:=i) (by omega) .z) rfl rfl<|clv0 T.cf84 rfl (Pj (el xs i) _ ((hs.2 i (by omega)).ext A.x) (hb i (by omega))) rfl λ_ _ ⟨er,Y⟩=>⟨_,er,?_⟩;have C:=A.ext Y;refine nl<|X<|cnd (p:=¬ bm (el xs i).1) rfl (λB=>?_) (λB=>?_)
   .exact sZ rfl<|ret<|W<|U<|K _ _<|G<|E<|leave1 (v:=vN i) rfl rfl<|⟨_,rfl,⟨λ_ h=>B (h _ (ak (by omega))),λ_=>by omega⟩,C.x⟩
   .refine skip<|V<|R<|rL (.a1 (by omega) .z) rfl rfl<|J _ ((i+1)) _ ⟨rfl,rfl,rfl,rfl,trivial⟩ ⟨(C.pick [] (by decide)),?_⟩ ?_
    ·(try dsimp only);exact ⟨by omega,λq h=>(Nat.lt_or_ge q i).elim (hq q) λ_=>(by rw [show q=i by omega];exact (Decidable.of_not_not B))⟩
    ·(try dsimp only);omega
  .exact exit<|N<|L _ _ _<|H<|D<|sZ rfl<|ret<|leave1 (v:=.int .i64 (-1)) rfl rfl<|⟨_,rfl,⟨λh=>absurd h (by decide),λh=>absurd (kH λj hj=>hq j (by omega)) h⟩,A.x⟩
theorem AR (xs:List Rw) (a:Option Addr) (c:Nat) (w0:World) (hs:Lits w0.heap a xs.length c xs) (hl:xs.length<=4398046511104) (hb:∀ q,q<xs.length->(el xs q).1.args.length<=4398046511104) :
  Calls Tryz.prog 83 #[.slice a xs.length c,.func (.func 84) #[] #[]] w0 λe w'=>e= .returned (vB (¬ (∀ y ∈ xs,bm y.1)))/\Ext w0 w':=by
 refine enter Tryz.func83 rfl 9 Tryz.ntmps83 rfl<|sZ rfl<|sj λ_ A=>qt mv<|qt mv<|cl T.cf141 (IR xs a c _ hs hl hb) rfl λ_ _ ⟨k,er,hk,B⟩=>⟨_,er,?_⟩;have C:=(Hp.start No w0).ext B;exact qR 2 (.i .z) rfl rfl<|nl<|A<|ret<|leave1 (v:=vB (0<=k)) rfl rfl<|⟨congrArg Ending.returned (dq (q:=¬ (∀ y ∈ xs,bm y.1)) (hk)),C.x⟩
theorem yg (z:Rx) (w0:World) (hs:RuM w0.heap z) (hl:z.ha.length<=4398046511104) (hl2:z.rows.length<=4398046511104) (hb:∀ q,q<z.rows.length->(el z.rows q).1.args.length<=4398046511104) :
  Calls Tryz.prog 41 #[.agg (eRu.enc z).toArray] w0 λe w'=>e= .returned (vB (pT z.r))/\Ext w0 w':=by
 refine enter Tryz.func41 rfl 18 Tryz.ntmps41 rfl<|sj λ_ D=>st_e<|Ebx (v:=.agg (eRu.enc z).toArray) (Hp.start No w0) rfl λ_ _ B _=>qt asg<|nl<|D<|sj λ_ C=>qR 2 (.d B 0 0 2 rfl .z) rfl rfl<|cl T.cf82 (BD z.hp z.ha z.ad z.c _ (hs.1.ext B.x) hl) rfl λ_ _ ⟨er,E⟩=>⟨_,er,?_⟩;have A:=B.ext E;refine st_if (p:=rD z.hp z.ha) (ai rfl) (λG=>?_) (λG=>?_)
 .refine qR 5 (.b A 0 2 rfl .z) rfl rfl<|st_if (p:=z.rows.length<=256) (ai rfl) (λH=>?_) (λH=>?_)
  .refine qR 2 (.b A 0 2 rfl .z) rfl rfl<|st_gq 9 12 rfl rfl (by decide)<|cl T.cf83 (AR z.rows z.bd z.bc _ (hs.2.ext A.x) hl2 hb) rfl λ_ _ ⟨er,I⟩=>⟨_,er,?_⟩;have J:=A.ext I;exact st_gq 9 12 rfl rfl (by decide)<|qt (aV rfl)<|qZ 2 rfl<|nl<|C<|ret<|leave1 (v:=vB (¬ (¬ (∀ y ∈ z.rows,bm y.1)))) rfl rfl<|⟨congrArg Ending.returned (dq (q:=pT z.r) (⟨λh=>(gX z).2 ⟨by assumption,by omega,Decidable.of_not_not h⟩,λh=>not_not_intro ((gX z).1 h).2.2⟩)),J.x⟩
  .exact qZ 6 rfl<|nl<|C<|ret<|leave1 (v:=.bool false) rfl rfl<|⟨congrArg Ending.returned (dF (p:=pT z.r) (λh=>by have h:=(gX z).1 h;first | exact absurd h.1 ‹_› | exact absurd h.2.2 ‹_› | exact absurd h.2.1 (by omega))),A.x⟩
 .exact qZ 12 rfl<|nl<|C<|ret<|leave1 (v:=.bool false) rfl rfl<|⟨congrArg Ending.returned (dF (p:=pT z.r) (λh=>by have h:=(gX z).1 h;first | exact absurd h.1 ‹_› | exact absurd h.2.2 ‹_› | exact absurd h.2.1 (by omega))),A.x⟩
end Go.Proofs.YtljfgmedbjlkaaaGreat
