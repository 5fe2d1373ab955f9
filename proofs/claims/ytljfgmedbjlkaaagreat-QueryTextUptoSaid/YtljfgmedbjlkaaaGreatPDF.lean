/- The law of a question's text: what its parts answer, of copies and of what was copied. -/
import Derived.Test.YtljfgmedbjlkaaaGreatTQ
import Derived.Test.YtljfgmedbjlkaaaGreatPDI
import Derived.Test.YtljfgmedbjlkaaaGreatVA
import Derived.Test.YtljfgmedbjlkaaaGreatVC
import Derived.Test.YtljfgmedbjlkaaaGreatVR
import Derived.Test.YtljfgmedbjlkaaaGreatProg
import Derived.Test.YtljfgmedbjlkaaaGreatPDE
import Derived.Test.YtljfgmedbjlkaaaGreatPPE
import Derived.Test.YtljfgmedbjlkaaaGreatQZ
import Derived.Test.YtljfgmedbjlkaaaGreatHkB
namespace Go.Proofs.YtljfgmedbjlkaaaGreat
open Go.RowKit Go.Eng Go.QP Go.Sort Go.Lib
theorem T.cf159:CF Tryz.prog 159:=λ_ _=>by kernel_rfl
theorem T.zv110:ZV Tryz.prog 110 (.agg #[.string ByteArray.empty,vN 0,.slice none 0 0]):=λ_=>by kernel_rfl
theorem T.sz110:SZ Tryz.prog 110 3:=λ_=>by kernel_rfl
theorem T.cf160:CF Tryz.prog 160:=λ_ _=>by kernel_rfl
theorem T.cf161:CF Tryz.prog 161:=λ_ _=>by kernel_rfl
theorem oI (g:Px) (w0:World) (hx:PxM w0.heap g/\PgB g.p) (h0:aA g.p=0) :
  Calls Tryz.prog 95 #[.agg g.cells.toArray] w0 λe w'=>∃ rs a c,e= .returned (.tuple #[.slice a rs.length c,.int .i64 0])/\RolesL g.p rs/\rs.length<=1200000000000/\Hp No w0 w' [cQ 100 eRo a rs.length c rs]:=by
 refine (yl g w0 hx).mono λe w' h=>?_
 rcases h with ⟨h,_⟩ | ⟨_,h⟩
 .exact absurd h0 h
 .exact h
def GsK (fz:Ch) (gs:List nX):Prop:=∀ h,fz.says h->∀ r ∈ gs,Th h r
theorem GsK.nil {fz:Ch}:GsK fz []:=λ_ _ _ h=>by cases h
theorem GsK.push {fz gz:Ch} {gs:List nX} {T:TypeId} {a:Option Addr} {c:Nat} {ws:List Wd} (h:GsK fz gs) (hw:RsK gz ws) {s:ByteArray} {n:Int}:GsK (cJ (cJ fz (cQ T eW a ws.length c ws)) gz) (gs++[(s,n,(a,c),ws)]):=λh' hs r hr=>by
 rcases List.mem_append.1 hr with hr | hr
 .exact h h' hs.1.1 r hr
 .rw [List.mem_singleton] at hr;subst hr;exact ⟨cQ.sr hs.1.2,hw h' hs.2⟩
theorem DJ (g:Px) (w0:World) (hx:PxM w0.heap g/\PgB g.p) (h0:aA g.p=0) :
  Calls Tryz.prog 159 #[.agg g.cells.toArray,.slice none 0 0] w0 λe w'=>e= .returned (.int .i64 0)/\Ext w0 w':=by
 refine enter Tryz.func159 rfl 90 Tryz.ntmps159 rfl<|sj λ_ B=>st_e<|Ebx (v:=.agg g.cells.toArray) (Hp.start No w0) rfl λ_ _ A _=>qt asg<|nl<|B<|sj λ_ C=>qR 1 (.d A 0 0 3 rfl .z) rfl rfl<|?_;have hro:=oI g _ ⟨hx.1.ext A.x,hx.2⟩ h0;refine cl T.cf95 (hro) rfl λ_ _ ⟨rs,ra,rc,er,hrs,hrl,KR⟩=>⟨_,er,?_⟩;have D:=A.app' KR;refine qZ 5 rfl<|nl<|C<|seqJ λ_ E _ _=>sZ rfl<|cndN (p:=0≠0) rfl ((λh=>h rfl))<|skip<|E<|seqJ λ_ G _ _=>sZ rfl<|blockJ λ_ _ _ _ H=>ay (α:=Nat) (λx=>[(1,.slice none 0 0),(5,.slice ra rs.length rc),(7,vN x)]) (λx I=>Hp No w0 I []/\x<=0) (λx=>0-x) (0) ⟨rfl,rfl,rfl,trivial⟩ ?_ ?_
 .refine ⟨(D.pick [] (by decide)),?_⟩;(try dsimp only);exact Nat.le_refl _
 .rintro M i N ⟨J,hi⟩;(try dsimp only at hi);intro O R U K;exact seqJ λ_ _ _ L=>sZ rfl<|cndN (p:=i<0) rfl (Nat.not_lt_zero _)<|exit<|L<|K _ _ _<|H<|G<|sZ rfl<|ret<|leave1 (v:=vN 0) rfl rfl<|⟨rfl,J.x⟩
theorem Hm (g:Px) (w0:World) (hx:PxM w0.heap g/\PgB g.p) (h0:aA g.p=0) (hg:g.rules.length<=60) :
  Calls Tryz.prog 96 #[.agg g.cells.toArray,.slice none 0 0] w0 λe w'=>∃ (gs:List nX) (a:Option Addr) (c:Nat) (fz:Ch),e= .returned (.tuple #[.slice a gs.length c,.int .i64 0])/\gs.length<=271581184/\(∀ r ∈ gs,r.2.2.2.length<=60)/\GsK fz gs/\Hp No w0 w' [cQ 110 nQ a gs.length c gs,fz]:=by
 have hcap:=hx.1.2.2.1.cap;refine enter Tryz.func96 rfl 142 Tryz.ntmps96 rfl<|sj λ_ Y=>st_e<|Ebx (v:=.agg g.cells.toArray) (Hp.start No w0) rfl λC _ K _=>qZ 2 rfl<|nl<|Y<|sj λ_ Z=>qR 2 (.d K 0 0 3 rfl .z) rfl rfl<|cl T.cf159 (DJ g _ ⟨hx.1.ext K.x,hx.2⟩ h0) rfl λ_ _ ⟨er,X⟩=>⟨_,er,?_⟩;have L:=K.ext X;refine qt asg<|nl<|Z<|seqJ λ_ aa _ _=>sZ rfl<|cndN (p:=0≠0) rfl ((λh=>h rfl))<|skip<|aa<|sj λ_ ba=>qR 1 (.d L 0 0 3 rfl .z) rfl rfl<|?_;have hro:=oI g _ ⟨hx.1.ext L.x,hx.2⟩ h0;refine cl T.cf95 (hro) rfl λ_ _ ⟨rs,ra,rc,er,hrs,hrl,KR⟩=>⟨_,er,?_⟩;have ca:=L.app' KR;refine qZ 5 rfl<|nl<|ba<|sZ rfl<|seqJ λ_ da _ _=>sZ rfl<|blockJ λ_ _ _ _ ea=>ay (α:=Nat × (List nX) × (Option Addr) × Nat × Nat × Ch) (λx=>[(1,.slice none 0 0),(2,.pointer (some ⟨C,0,none⟩)),(7,.slice ra rs.length rc),(9,.slice x.2.2.1 x.2.2.2.2.1 x.2.2.2.1),(10,vN x.1)]) (λx fa=>Hp No w0 fa [cB C 43 g.cells,cQ 100 eRo ra rs.length rc rs,cQ 110 nQ x.2.2.1 x.2.2.2.2.1 x.2.2.2.1 x.2.1,x.2.2.2.2.2]/\x.1<=rs.length/\x.2.2.2.2.1<=x.1/\GsK x.2.2.2.2.2 x.2.1/\∀ r ∈ x.2.1,r.2.2.2.length<=60) (λx=>rs.length-x.1) (0,[],none,0,0,cE) ⟨rfl,rfl,rfl,rfl,rfl,trivial⟩ ?_ ?_
 .refine ⟨(((ca.void).nilQ 110 nQ).pick [3,2,0,1] (by decide)),?_⟩;(try dsimp only);exact ⟨Nat.zero_le _,Nat.le_refl _,GsK.nil,λ_ h=>by cases h⟩
 .rintro bb ⟨i,gs,ag,cg,m,fz⟩ cb ⟨D,⟨hi,hm,hG,hGn⟩⟩;(try dsimp only at hi hm hG hGn);intro db O eb ia;dsimp only at D ⊢;refine seqJ λ_ ja _ ka=>sZ rfl<|cnd (p:=i<rs.length) rfl (λla=>?_) (λla=>?_)
  .refine skip<|ja<|seqJ λ_ R _ _=>blockJ λ_ ma _ _ na=>seqJ λ_ oa _ qa=>sL (.f (D.srQ 1 rfl) 2 (i:=i) (by omega) rfl .z) rfl rfl<|cndB (b:=(el rs i).2.2.1) rfl (λsa=>?_) (λsa=>?_)
   .refine exit<|qa<|na<|R<|rL (.a1 (by omega) .z) rfl rfl<|O _ ((i+1),gs,ag,cg,m,fz) _ ⟨rfl,rfl,rfl,rfl,rfl,trivial⟩ ⟨(D.pick [0,1,2,3] (by decide)),?_⟩ ?_
    ·(try dsimp only);exact ⟨by omega,by omega,hG,hGn⟩
    ·(try dsimp only);omega
   .refine skip<|oa<|seqJ λ_ ua _ _=>rgS [11,12] (by kernel_rfl) λ_ va U=>?_;have M:=D.ext va;refine dW 10 (.f (M.srQ 1 rfl) 0 (i:=i) (by omega) rfl (.f (M.srQ 1 rfl) 1 (i:=i) (by omega) rfl .z)) rfl rfl<|d_q (v:=.agg #[.string ((el rs i).1),.int .i64 ((el rs i).2.1),.slice none 0 0]) rfl rfl (λ_=>aw (λ_=>by kernel_rfl))<|d_e (by decide)<|d_e' rfl rfl<|Eal M T.zv110 λG _ wa xa=>?_;have ya:=U.trans (xa.mono U.size);refine ⟨λ_=>ya,?_⟩;refine d_e (by decide)<|d_s' rfl rfl<|Est (v:=.agg #[.string ((el rs i).1),.int .i64 ((el rs i).2.1),.slice none 0 0]) wa 0 T.sz110 rfl rfl rfl rfl rfl rfl λ_ za=>⟨bv (by kernel_rfl),?_⟩;refine d_done<|ua<|seqJ λ_ Aa _ _=>sZ rfl<|blockJ λ_ _ _ _ Ba=>ay (α:=Nat) (λx=>[(1,.slice none 0 0),(2,.pointer (some ⟨C,0,none⟩)),(7,.slice ra rs.length rc),(9,.slice ag m cg),(10,vN i),(11,.pointer (some ⟨G,0,none⟩)),(12,vN x)]) (λx Ca=>Hp No w0 Ca [cB C 43 g.cells,cQ 100 eRo ra rs.length rc rs,cQ 110 nQ ag m cg gs,fz,cB G 110 [.string ((el rs i).1),.int .i64 ((el rs i).2.1),.slice none 0 0]]/\0<=x) (λx=>0-x) (0) ⟨rfl,rfl,rfl,rfl,rfl,rfl,rfl,trivial⟩ ?_ ?_
    .refine ⟨(za.pick [1,2,3,4,0] (by decide)),?_⟩;(try dsimp only);exact Nat.le_refl _
    .rintro fb j hb ⟨Da,hj⟩;(try dsimp only at hj);intro ib jb kb Ea;refine seqJ λ_ _ _ Fa=>sZ rfl<|cndN (p:=j<0) rfl (Nat.not_lt_zero _)<|exit<|Fa<|Ea _ _ _<|Ba<|Aa<|seqJ λ_ Ga _ _=>sZ rfl<|blockJ λ_ _ _ _ Ha=>ay (α:=Nat × (List Wd) × (Option Addr) × Nat × Ch) (λx=>[(1,.slice none 0 0),(2,.pointer (some ⟨C,0,none⟩)),(7,.slice ra rs.length rc),(9,.slice ag m cg),(10,vN i),(11,.pointer (some ⟨G,0,none⟩)),(14,vN x.1)]) (λx Ia=>Hp No w0 Ia [cB C 43 g.cells,cQ 100 eRo ra rs.length rc rs,cQ 110 nQ ag m cg gs,fz,cB G 110 [.string ((el rs i).1),.int .i64 ((el rs i).2.1),.slice x.2.2.1 x.2.1.length x.2.2.2.1],cQ 50 eW x.2.2.1 x.2.1.length x.2.2.2.1 x.2.1,x.2.2.2.2]/\x.1<=g.rules.length/\x.2.1.length<=x.1/\RsK x.2.2.2.2 x.2.1) (λx=>g.rules.length-x.1) (0,[],none,0,cE) ⟨rfl,rfl,rfl,rfl,rfl,rfl,rfl,trivial⟩ ?_ ?_
     .refine ⟨(((Da.void).nilQ 50 eW).pick [2,3,4,5,6,0,1] (by decide)),?_⟩;(try dsimp only);exact ⟨Nat.zero_le _,Nat.le_refl _,RsK.nil⟩
     .rintro lb ⟨k,ws,ta,tc,gz⟩ mb ⟨B,⟨hk,hwk,hgz⟩⟩;(try dsimp only at hk hwk hgz);intro nb H ob Ja;dsimp only at B ⊢;refine seqJ λ_ Ka _ La=>sL (.b B 0 2 rfl .z) rfl rfl<|cnd (p:=k<g.rules.length) rfl (λMa=>?_) (λMa=>?_)
      .refine skip<|Ka<|seqJ λ_ I _ _=>blockJ λ_ J _ _ _=>sj λ_ Na=>qR 7 (.b B 0 2 rfl (.f (hx.1.2.2.1.e B) 1 (i:=k) (by omega) rfl .z)) rfl rfl<|cl T.cf160 (EV (el g.rules k).ha _ _ _ ((hx.1.2.2.2 k ‹_›).1.ext B.x) (hx.2.rule ‹_›).2.1) rfl λ_ _ ⟨gt,ga,gc,gb,er,hgt,KG⟩=>⟨_,er,?_⟩;have Oa:=B.app' KG;have hgl:=(hx.2.rule (i:=k) ‹_›).2.1;refine qZ 5 rfl<|nl<|Na<|seqJ λ_ N _ _=>rgS [] (by kernel_rfl) λPa Qa _=>?_;have A:=Oa.ext Qa;refine d_q rfl rfl (λ_=>mv)<|d_if rfl rfl (p:=gb=true) (λ_=>mv) (λRa=>?_) (λRa=>?_)
       .refine dW 9 (.b A 1 2 rfl (.f (hx.1.2.2.1.e A) 2 (i:=k) (by omega) rfl .z)) rfl rfl<|d_if rfl rfl (p:=((el g.rules k).rows.length)=0) (λ_=>mv) (λSa=>?_) (λSa=>?_)
        .refine dW 11 (.b A 1 2 rfl (.f (hx.1.2.2.1.e A) 0 (i:=k) (by omega) rfl (.b A 5 0 rfl .z))) rfl rfl<|d_done<|N<|cnd (p:=((el g.rules k).hp).toList=((el rs i).1).toList) rfl (λTa=>?_) (λTa=>?_)
         .refine region<|qR 3 (.b A 5 2 rfl .z) rfl rfl<|?_;have hgl2:gt.length<=1048576:=Nat.le_trans hgt hgl;have V:Hp No w0 Pa ([cQ 50 eW ta ws.length tc ws,gz,cQ 9 eS ga gt.length gc gt]++[cB C 43 g.cells,cQ 100 eRo ra rs.length rc rs,cQ 110 nQ ag m cg gs,fz,cB G 110 [.string ((el rs i).1),.int .i64 ((el rs i).2.1),.slice ta ws.length tc]]):=(A.pick [6,7,0,1,2,3,4,5] (by decide));refine cl T.cf161 (Pv ws gt ta ga tc gc gz (cQ 9 eS ga gt.length gc gt) _ _ V.startL hgz (λ_ h=>cQ.sr h) (by omega) hgl2) rfl λ_ _ ⟨vs,pa,pc,gz2,er,hvl,KP,hgz2⟩=>⟨_,er,?_⟩;have Ua:=V.callL KP;refine qZ 1 rfl<|st_s<|Est (v:=.slice pa vs.length pc) Ua 7 T.sz108 rfl rfl rfl rfl rfl rfl λ_ Va=>nl<|J<|I<|rL (.a1 (by omega) .z) rfl rfl<|H _ ((k+1),vs,pa,pc,gz2) _ ⟨rfl,rfl,rfl,rfl,rfl,rfl,rfl,trivial⟩ ⟨(Va.pick [3,4,5,6,7,0,1] (by decide)),?_⟩ ?_
          ·(try dsimp only);exact ⟨by omega,by omega,hgz2⟩
          ·(try dsimp only);omega
         .refine skip<|J<|I<|rL (.a1 (by omega) .z) rfl rfl<|H _ ((k+1),ws,ta,tc,gz) _ ⟨rfl,rfl,rfl,rfl,rfl,rfl,rfl,trivial⟩ ⟨(A.pick [1,2,3,4,5,6,7] (by decide)),?_⟩ ?_
          ·(try dsimp only);exact ⟨by omega,by omega,hgz⟩
          ·(try dsimp only);omega
        .refine dW 11 .z rfl rfl<|d_done<|N<|cndF rfl<|skip<|J<|I<|rL (.a1 (by omega) .z) rfl rfl<|H _ ((k+1),ws,ta,tc,gz) _ ⟨rfl,rfl,rfl,rfl,rfl,rfl,rfl,trivial⟩ ⟨(A.pick [1,2,3,4,5,6,7] (by decide)),?_⟩ ?_
         ·(try dsimp only);exact ⟨by omega,by omega,hgz⟩
         ·(try dsimp only);omega
       .refine dW 21 .z rfl rfl<|d_done<|N<|cndF rfl<|skip<|J<|I<|rL (.a1 (by omega) .z) rfl rfl<|H _ ((k+1),ws,ta,tc,gz) _ ⟨rfl,rfl,rfl,rfl,rfl,rfl,rfl,trivial⟩ ⟨(A.pick [1,2,3,4,5,6,7] (by decide)),?_⟩ ?_
        ·(try dsimp only);exact ⟨by omega,by omega,hgz⟩
        ·(try dsimp only);omega
      .refine exit<|La<|Ja _ _ _<|Ha<|Ga<|region<|qR 2 (.d B 4 0 3 rfl .z) rfl rfl<|st_e<|Ebs (cs:=[.string ((el rs i).1),.int .i64 ((el rs i).2.1),.slice ta ws.length tc]) (e:=110) B (λ_=>by kernel_rfl) λ_ _ W _=>st_e<|EapQ W 3 T.sl105 rfl rfl rfl (W.lst (E:=nQ) 0 rfl ((el rs i).1,(el rs i).2.1,(ta,tc),ws) rfl) (by omega) rfl rfl λa151 Wa _ Xa=>qt asg<|nl<|ma<|R<|rL (.a1 (by omega) .z) rfl rfl<|?_;have Ya:=((Xa.pick [6,4,0,1,2,3,5,7] (by decide)).melt 0 rfl);have Za:=((Ya.pick [6,0,1,2,3,4,5] (by decide)).melt 0 rfl);refine O _ ((i+1),(gs++[((el rs i).1,(el rs i).2.1,(ta,tc),ws)]),a151,Wa,(m+1),(cJ (cJ fz (cQ 50 eW ta ws.length tc ws)) (gz))) _ ⟨rfl,rfl,rfl,rfl,rfl,trivial⟩ ⟨(Za.pick [2,3,4,0] (by decide)),?_⟩ ?_
       ·(try dsimp only);exact ⟨by omega,by omega,GsK.push hG hgz,λr hr=>(List.mem_append.1 hr).elim (hGn r) λh=>by rw [List.mem_singleton] at h;subst h;show ws.length<=60;omega⟩
       ·(try dsimp only);omega
  .refine exit<|ka<|ia _ _ _<|ea<|da<|sZ rfl<|ret<|leave2 (v:=.slice ag m cg) (v':=vN 0) rfl rfl rfl ?_;have hrn:=RolesL.len hx.2 h0 hrs;have hgl:=(D.srQ 2 rfl).len;subst hgl;exact ⟨gs,_,_,fz,rfl,by omega,hGn,hG,(D.pick [2,3] (by decide))⟩
theorem T.cf96:CF Tryz.prog 96:=λ_ _=>by kernel_rfl
theorem T.cf97:CF Tryz.prog 97:=λ_ _=>by kernel_rfl
theorem Hp.famNil {S:Nat->Prop} {w0 w:World} {L:List Ch} {T:TypeId} {ms:List nX} {n:Nat} (H:Hp S w0 w L) (h:∀ j,j<n->(el ms j).2.2=((none,0),[])):Hp S w0 w (Go.Eng.cF n (ig T ms)::L):=by
 have hm:∀ j,j<n->ig T ms j=cQ T eW none 0 0 []:=λj hj=>by unfold ig;rw [h j hj];rfl
 refine H.app' (M:=[Go.Eng.cF n (ig T ms)]) ⟨Mod.refl _ _,λc hc=>?_,λc hc b hb=>?_,List.pairwise_singleton _ _⟩
 .rw [List.mem_singleton] at hc;subst hc;refine ⟨λj hj=>?_,λi j hi _ _ b hb _=>?_⟩
  .rw [hm j hj];exact OwnQ.none _ _ _ _
  .rw [hm i hi] at hb;exact absurd hb.1 (Nat.lt_irrefl _)
 .rw [List.mem_singleton] at hc;subst hc;obtain ⟨j,hj,hb⟩:=hb;rw [hm j hj] at hb;exact absurd hb.1 (Nat.lt_irrefl _)
theorem IZ (g:Px) (w0:World) (hx:PxM w0.heap g/\PgB g.p) (h0:aA g.p=0) (hg:g.rules.length<=60) :
  Calls Tryz.prog 47 #[.agg g.cells.toArray,.slice none 0 0] w0 λe w'=>∃ (rs:List Ro) (ms:List nX) (a:Option Addr) (c:Nat),e= .returned (.slice a ms.length c)/\RolesL g.p rs/\RelH ms rs/\Hp No w0 w' [cQ 110 nQ a ms.length c ms]:=by
 refine enter Tryz.func47 rfl 76 Tryz.ntmps47 rfl<|sj λ_ M=>st_e<|Ebx (v:=.agg g.cells.toArray) (Hp.start No w0) rfl λI _ G _=>qt asg<|nl<|M<|sZ rfl<|sj λ_ N=>qR 1 (.d G 0 0 3 rfl .z) rfl rfl<|?_;have hro:=oI g _ ⟨hx.1.ext G.x,hx.2⟩ h0;refine cl T.cf95 (hro) rfl λ_ _ ⟨rs,ra,rc,er,hrs,hrl,KR⟩=>⟨_,er,?_⟩;have O:=G.app' KR;refine qZ 5 rfl<|nl<|N<|seqJ λ_ R _ _=>sZ rfl<|blockJ λ_ _ _ _ U=>ay (α:=Nat × (List nX) × (Option Addr) × Nat × Nat) (λx=>[(1,.slice none 0 0),(2,.pointer (some ⟨I,0,none⟩)),(5,.slice x.2.2.1 x.2.2.2.2 x.2.2.2.1),(6,.slice ra rs.length rc),(8,vN x.1)]) (λx V=>Hp No w0 V [cB I 43 g.cells,cQ 100 eRo ra rs.length rc rs,cQ 110 nQ x.2.2.1 x.2.2.2.2 x.2.2.2.1 x.2.1]/\x.1<=rs.length/\x.2.2.2.2=x.1/\x.2.1=((rs.take x.1).map λr=>(r.1,r.2.1,((none,0):Option Addr × Nat),([]:List Wd)))) (λx=>rs.length-x.1) (0,[],none,0,0) ⟨rfl,rfl,rfl,rfl,rfl,trivial⟩ ?_ ?_
 .refine ⟨((O.nilQ 110 nQ).pick [2,1,0] (by decide)),?_⟩;(try dsimp only);exact ⟨Nat.zero_le _,rfl,rfl⟩
 .rintro Ia ⟨i,ms,am,cm,m⟩ Ja ⟨A,⟨hi,hm,hms⟩⟩;(try dsimp only at hi hm hms);intro Ka W La X;dsimp only at A ⊢;refine seqJ λ_ Y _ Z=>sZ rfl<|cnd (p:=i<rs.length) rfl (λaa=>?_) (λaa=>?_)
  .refine skip<|Y<|seqJ λ_ ba _ _=>blockJ λ_ ca _ _ _=>rgS [12,13] (by kernel_rfl) λ_ da J=>?_;have H:=A.ext da;refine dW 11 (.f (H.srQ 1 rfl) 0 (i:=i) (by omega) rfl (.f (H.srQ 1 rfl) 1 (i:=i) (by omega) rfl .z)) rfl rfl<|d_q (v:=.agg #[.string ((el rs i).1),.int .i64 ((el rs i).2.1),.slice none 0 0]) rfl rfl (λ_=>aw (λ_=>by kernel_rfl))<|d_e (by decide)<|d_e' rfl rfl<|Ebs (cs:=[.string ((el rs i).1),.int .i64 ((el rs i).2.1),.slice none 0 0]) (e:=110) H (λ_=>by kernel_rfl) λ_ _ K ea=>?_;have fa:=J.trans (ea.mono J.size);refine ⟨λ_=>fa,?_⟩;refine d_e (by decide)<|d_e' rfl rfl<|EapQ K 3 T.sl105 rfl rfl rfl (K.lst (E:=nQ) 0 rfl ((el rs i).1,(el rs i).2.1,((none,0):Option Addr × Nat),([]:List Wd)) rfl) (by omega) rfl rfl λa53 ga _ ha=>⟨bv (by kernel_rfl),?_⟩;refine d_q rfl rfl (λ_=>asg)<|d_done<|ca<|ba<|rL (.a1 (by omega) .z) rfl rfl<|W _ ((i+1),(ms++[((el rs i).1,(el rs i).2.1,((none,0):Option Addr × Nat),([]:List Wd))]),a53,ga,(m+1)) _ ⟨rfl,rfl,rfl,rfl,rfl,trivial⟩ ⟨(ha.pick [1,2,3] (by decide)),?_⟩ ?_
   ·(try dsimp only);exact ⟨by omega,by omega,by rw [eG ‹_›,List.map_append,← hms];rfl⟩
   ·(try dsimp only);omega
  .refine exit<|Z<|X _ _ _<|U<|R<|sj λ_ ia=>qR 2 (.d A 0 0 3 rfl .z) rfl rfl<|cl T.cf96 (Hm g _ ⟨hx.1.ext A.x,hx.2⟩ h0 hg) rfl λ_ _ ⟨gs,ag,cg,fg,er,hgl,hgn,hG,KG⟩=>⟨_,er,?_⟩;have ja:=A.app' KG;have hmr:m=rs.length:=by omega
   have hms2:ms=rs.map λr=>(r.1,r.2.1,((none,0):Option Addr × Nat),([]:List Wd)):=by rw [hms,List.take_of_length_le (by omega)]
   have hem:∀ r ∈ ms,r.2.2=((none,0),[]):=λr hr=>by rw [hms2] at hr;obtain ⟨z,_,rfl⟩:=List.mem_map.1 hr;rfl
   have hml:ms.length=m:=by rw [hms2,List.length_map,hmr]
   have ka:=(Hp.famNil (T:=50) (ms:=ms) (n:=m) ja (λj hj=>hem _ (ak (by omega)))).void;refine qZ 5 rfl<|nl<|ia<|seqJ λ_ la _ _=>sZ rfl<|blockJ λ_ _ _ _ ma=>ay (α:=Nat × (List nX) × Ch) (λx=>[(5,.slice am m cm),(9,.slice ag gs.length cg),(11,vN x.1)]) (λx na=>Hp No w0 na [cQ 110 nQ am m cm x.2.1,Go.Eng.cF m (ig 50 x.2.1),x.2.2,cQ 110 nQ ag gs.length cg gs,fg]/\x.1<=gs.length/\SameH x.2.1 ms/\MsK x.2.2 x.2.1/\∀ r ∈ x.2.1,r.2.2.2.length<=60 * x.1) (λx=>gs.length-x.1) (0,ms,cE) ⟨rfl,rfl,rfl,trivial⟩ ?_ ?_
   .refine ⟨(ka.pick [6,1,0,2,3] (by decide)),?_⟩;(try dsimp only);exact ⟨Nat.zero_le _,rfl,λr hr=>by rw [hem r hr];exact RsK.nil,λr hr=>by rw [hem r hr];exact Nat.le_refl _⟩
   .rintro Ma ⟨i2,ns,fz⟩ Na ⟨C,⟨hi2,hs,hf,hB⟩⟩;(try dsimp only at hi2 hs hf hB);intro Oa oa Pa pa;dsimp only at C ⊢;refine seqJ λ_ qa _ sa=>sZ rfl<|cnd (p:=i2<gs.length) rfl (λta=>?_) (λta=>?_)
    .refine skip<|qa<|seqJ λ_ ua _ _=>blockJ λ_ va _ _ _=>sZ rfl<|blockJ λ_ _ _ _ wa=>ay (α:=Nat × (List nX) × Ch) (λx=>[(5,.slice am m cm),(9,.slice ag gs.length cg),(11,vN i2),(12,vN x.1)]) (λx xa=>Hp No w0 xa [cQ 110 nQ am m cm x.2.1,Go.Eng.cF m (ig 50 x.2.1),x.2.2,cQ 110 nQ ag gs.length cg gs,fg]/\x.1<=(el gs i2).2.2.2.length/\SameH x.2.1 ms/\MsK x.2.2 x.2.1/\∀ r ∈ x.2.1,r.2.2.2.length<=60 * i2+x.1) (λx=>(el gs i2).2.2.2.length-x.1) (0,ns,fz) ⟨rfl,rfl,rfl,rfl,trivial⟩ ?_ ?_
     .refine ⟨(C.pick [0,1,2,3,4] (by decide)),?_⟩;(try dsimp only);exact ⟨Nat.zero_le _,hs,hf,hB⟩
     .rintro Qa ⟨k,ps,fz2⟩ Ra ⟨D,⟨hk,hs2,hf2,hB2⟩⟩;(try dsimp only at hk hs2 hf2 hB2);intro Sa ya Ta za;dsimp only at D ⊢;refine seqJ λ_ Aa _ Ba=>sL (.f (D.srQ 3 rfl) 2 (i:=i2) (by omega) rfl .z) rfl rfl<|cnd (p:=k<((el gs i2).2.2.2.length)) rfl (λCa=>?_) (λCa=>?_)
      .refine skip<|Aa<|seqJ λ_ Da _ _=>blockJ λ_ Ea _ _ _=>rgS [14] (by kernel_rfl) λFa Ga _=>?_;have B:=D.ext Ga;refine dW 14 (.f (B.srQ 3 rfl) 0 (i:=i2) (by omega) rfl (.f (B.srQ 3 rfl) 2 (i:=i2) (by omega) rfl (.e (hG _ (B.at 4 rfl) _ (ak (xs:=gs) (i:=i2) ‹_›)).1 (i:=k) (by omega) .z))) rfl rfl<|?_;have hB1:=hgn _ (ak (xs:=gs) (i:=i2) ‹_›);have hts:=((hG _ (B.at 4 rfl) _ (ak (xs:=gs) (i:=i2) ‹_›)).2 _ (ak (xs:=(el gs i2).2.2.2) (i:=k) (by omega))).2;have L:Hp No w0 Fa ([cQ 110 nQ am m cm ps,Go.Eng.cF m (ig 50 ps),fz2,fg]++[cQ 110 nQ ag gs.length cg gs]):=(B.pick [0,1,2,4,3] (by decide));refine d_e (by decide)<|d_c' rfl rfl (aT _ T.cf97 rfl rfl) (NB ps (el gs i2).1 (el (el gs i2).2.2.2 k).2 am (el (el gs i2).2.2.2 k).1.1 m cm (el (el gs i2).2.2.2 k).1.2 (60 * i2+k) fz2 fg _ _ L.startL hf2 (λh hh=>((hG h hh _ (ak (xs:=gs) (i:=i2) ‹_›)).2 _ (ak (xs:=(el gs i2).2.2.2) (i:=k) (by omega))).1) hB2 (by omega) hts) λ_ _ ⟨qs,fz3,bz,er,hs3,hB3,KP,hf3⟩=>⟨_,er,?_⟩;have Ha:=L.callL KP;refine ⟨bv (by kernel_rfl),?_⟩;refine d_done<|Ea<|Da<|rL (.a1 (by omega) .z) rfl rfl<|ya _ ((k+1),qs,fz3) _ ⟨rfl,rfl,rfl,rfl,trivial⟩ ⟨(Ha.pick [0,1,2,4,3] (by decide)),?_⟩ ?_
       ·(try dsimp only);exact ⟨by omega,hs3.trans hs2,hf3,λr hr=>by have:=hB3 r hr;omega⟩
       ·(try dsimp only);omega
      .refine exit<|Ba<|za _ _ _<|wa<|va<|ua<|rL (.a1 (by omega) .z) rfl rfl<|oa _ ((i2+1),ps,fz2) _ ⟨rfl,rfl,rfl,trivial⟩ ⟨(D.pick [0,1,2,3,4] (by decide)),?_⟩ ?_
       ·(try dsimp only);exact ⟨by omega,hs2,hf2,λr hr=>by have Ua:=hB2 r hr;have Va:=hgn _ (ak (xs:=gs) (i:=i2) ‹_›);omega⟩
       ·(try dsimp only);omega
    .refine exit<|sa<|pa _ _ _<|ma<|la<|sZ rfl<|ret<|leave1 (v:=.slice am m cm) rfl rfl<|?_;have hl:=(C.srQ 0 rfl).len;subst hl;exact ⟨rs,ns,_,_,rfl,hrs,by unfold RelH;rw [hs,hms2,List.map_map];rfl,(C.pick [0] (by decide))⟩
theorem T.cf93:CF Tryz.prog 93:=λ_ _=>by kernel_rfl
theorem T.cf94:CF Tryz.prog 94:=λ_ _=>by kernel_rfl
theorem T.cf46:CF Tryz.prog 46:=λ_ _=>by kernel_rfl
theorem T.cf47:CF Tryz.prog 47:=λ_ _=>by kernel_rfl
theorem NU (q:List Qlit):QF q↔QG q:=by
 unfold QF QG pT rD oH
 constructor
 .rintro ⟨h1,_,h2,h3⟩;exact ⟨h1,h2,h3⟩
 .rintro ⟨h1,h2,h3⟩;exact ⟨h1,⟨(by decide +kernel:kind MJ=1),Nat.zero_le _,λy hy=>(by cases hy)⟩,h2,h3⟩
theorem lX {rows:List Rw} (h:RuB (oH (rows.map (·.1)))):rows.length<=1048576/\∀ i,i<rows.length->lZ (el rows i).1:=by
 have h4:=h.2.2.2.1;have e:(oH (rows.map (·.1))).body.length=rows.length:=List.length_map _;rw [e] at h4;exact ⟨h4,λi hi=>h.2.2.2.2 _ (List.mem_map.2 ⟨_,ak hi,rfl⟩)⟩
theorem FL (rows:List Rw) (a:Option Addr) (c:Nat) (w0:World) (hs:Lits w0.heap a rows.length c rows) (hqb:RuB (oH (rows.map (·.1)))) :
  Calls Tryz.prog 20 #[.slice a rows.length c] w0 λe w'=>∃ r:Bool,e= .returned (vB (r=true))/\(r=true↔QF (rows.map (·.1)))/\Ext w0 w':=
 (yY a rows.length c rows w0 hs (lX hqb).2).mono λe w' ⟨r,he,hr,x⟩=>⟨r,by rw [he];cases r <;> rfl,hr.trans (NU _).symm,x⟩
theorem LQ (xs:List nX) (a:Option Addr) (m c:Nat) (s:ByteArray) (w0:World) (hs:Srm nQ w0.heap a m c xs) :
  Calls Tryz.prog 48 #[.slice a m c,.string s] w0 λe w'=>(∃ i:Nat,i<m/\e= .returned (.int .i64 (i:Int))/\(el xs i).1=s/\Ext w0 w')\/(e= .returned (.int .i64 (-1))/\(∀ t ∈ xs,t.1≠s)/\Ext w0 w'):=by
 have hl:=hs.len;subst hl;refine (CL xs a c s w0 hs).mono λe w' h=>?_;obtain ⟨⟨i,h1,h2,h3⟩ | ⟨h1,h2⟩,h4⟩:=h
 .exact .inl ⟨i,h1,h2,h3,h4▸Below.refl _ _⟩
 .exact .inr ⟨h1,h2,h4▸Below.refl _ _⟩
theorem zV {o:Option ByteArray} (h:(o.getD ByteArray.empty).toList≠(ByteArray.mk #[]).toList):o=some (o.getD ByteArray.empty):=by
 cases o with
 | none=>exact absurd rfl h
 | some x=>rfl
theorem AA {o:Option ByteArray} (hn:o≠some ByteArray.empty) (h:(o.getD ByteArray.empty).toList=(ByteArray.mk #[]).toList):o=none:=by
 cases o with
 | none=>rfl
 | some x=>exact absurd (congrArg some (aC h)) hn
theorem KX (g:Px) (w0:World) (hx:PxM w0.heap g/\PgB g.p) :
  Calls Tryz.prog 46 #[.agg g.cells.toArray] w0 λe w'=>∃ c:Nat,e= .returned (.int .i64 (c:Nat))/\GoodC g.p c/\Ext w0 w':=by
 have hcap:=hx.1.2.2.1.cap;refine enter Tryz.func46 rfl 34 Tryz.ntmps46 rfl<|sj λ_ H=>st_e<|Ebx (v:=.agg g.cells.toArray) (Hp.start No w0) rfl λC _ B _=>qt asg<|nl<|H<|sj λ_ I=>qR 1 (.d B 0 0 3 rfl .z) rfl rfl<|cl T.cf92 (tu g _ ⟨hx.1.ext B.x,hx.2⟩) rfl λ_ _ ⟨uk,ui,us,er,J⟩=>⟨_,er,?_⟩;have K:=B.ext J;refine qZ 3 rfl<|st_e<|Eal K T.zv152 λ_ _ L _=>st_s<|Est (v:=.agg #[.int .i64 uk,.int .i64 ui,.string us]) L 0 T.sz152 rfl rfl rfl rfl rfl rfl λ_ D=>qt asg<|nl<|I<|seqJ λ_ M N _=>sZ rfl<|cnd (p:=(aA g.p)≠0) rfl (λO=>?_) (λO=>?_)
 .exact sZ rfl<|ret<|N<|leave1 (v:=vN (aA g.p)) rfl rfl<|⟨_,rfl,.inl ⟨by assumption,rfl⟩,D.x⟩
 .refine skip<|M<|seqJ λ_ R U _=>sZ rfl<|blockJ λ_ _ V _ W=>ay (α:=Nat) (λx=>[(1,.pointer (some ⟨C,0,none⟩)),(5,vN x)]) (λx X=>Hp No w0 X [cB C 43 g.cells]/\x<=g.rules.length/\∀ q,q<x->(aQ (el g.rules q).r).isNone=true) (λx=>g.rules.length-x) (0) ⟨rfl,rfl,trivial⟩ ?_ ?_
  .refine ⟨(D.pick [1] (by decide)),?_⟩;(try dsimp only);exact ⟨Nat.zero_le _,λq h=>absurd h (Nat.not_lt_zero _)⟩
  .rintro oa i pa ⟨A,⟨hi,hq⟩⟩;(try dsimp only at hi hq);intro qa Y Z aa;refine seqJ λ_ ba _ ca=>sL (.b A 0 2 rfl .z) rfl rfl<|cnd (p:=i<g.rules.length) rfl (λda=>?_) (λda=>?_)
   .refine skip<|ba<|seqJ λ_ ea fa _=>blockJ λ_ ga ha _ _=>sj λ_ ia=>qR 5 (.b A 0 2 rfl (.e (hx.1.2.2.1.e A) (i:=i) (by omega) .z)) rfl rfl<|?_;have E:aA g.p=0:=Decidable.of_not_not ‹_›;have hfi:=(sH E).rule (i:=i) ‹_›;refine cl T.cf93 (KH (el g.rules i) _ ((hx.1.2.2.2 i ‹_›).ext A.x) (hx.2.rule ‹_›) (yz hfi) (xS hfi)) rfl λ_ _ ⟨er,ja⟩=>⟨_,er,?_⟩;have G:=A.ext ja;refine qt (aV rfl)<|nl<|ia<|cnd (p:=¬ (aQ (el g.rules i).r=none)) rfl (λka=>?_) (λka=>?_)
    .refine sZ rfl<|ret<|ha<|fa<|Z _ _<|V<|U<|leave1 (v:=vN 14) rfl rfl<|?_;have hsf:=vM (x:=g) (i:=i) ‹_› (by rw [Option.isNone_iff_eq_none];assumption);exact ⟨14,rfl,.inr (.inl ⟨E,by rw [hsf];decide,hsf.symm⟩),G.x⟩
    .refine skip<|ga<|ea<|rL (.a1 (by omega) .z) rfl rfl<|Y _ ((i+1)) _ ⟨rfl,rfl,trivial⟩ ⟨(G.pick [0] (by decide)),?_⟩ ?_
     ·(try dsimp only);exact ⟨by omega,λq h=>(Nat.lt_or_ge q i).elim (hq q) λ_=>by rw [show q=i by omega,Option.isNone_iff_eq_none];exact Decidable.of_not_not ‹_›⟩
     ·(try dsimp only);omega
   .refine exit<|ca<|aa _ _ _<|W<|R<|sj λ_ la=>qR 1 (.d A 0 0 3 rfl .z) rfl rfl<|cl T.cf94 (Eg g _ ⟨hx.1.ext A.x,hx.2⟩) rfl λ_ _ ⟨vl,lc,er,hlc,ma⟩=>⟨_,er,?_⟩;have na:=A.ext ma;exact qZ 4 rfl<|nl<|la<|sZ rfl<|ret<|leave1 (v:=vN lc) rfl rfl<|⟨_,rfl,Cm (Decidable.of_not_not ‹_›) (xR λq h=>hq q (by omega)) hlc,na.x⟩
theorem Ig (g:Px) (rows:List Rw) (a:Option Addr) (c:Nat) (w0:World) (hx:PxM w0.heap g/\PgB g.p) (hs:Lits w0.heap a rows.length c rows) (hqb:RuB (oH (rows.map (·.1)))) (hg:g.rules.length<=60) :
  Calls Tryz.prog 17 #[.agg g.cells.toArray,.slice a rows.length c] w0 λe w'=>∃ (s:ByteArray) (k:Nat),e= .returned (.tuple #[.string s,.int .i64 (k:Nat)])/\ChkQ g.p (rows.map (·.1)) s k/\Ext w0 w':=by
 have hcap:=hs.1.cap;have hlm:(rows.map (·.1)).length=rows.length:=List.length_map _;refine enter Tryz.func17 rfl 71 Tryz.ntmps17 rfl<|sj λ_ Z=>st_e<|Ebx (v:=.agg g.cells.toArray) (Hp.start No w0) rfl λ_ _ C _=>qZ 2 rfl<|nl<|Z<|seqJ λ_ aa ba _=>sj λ_ ca=>qR 1 (.d C 0 0 3 rfl .z) rfl rfl<|cl T.cf46 (KX g _ ⟨hx.1.ext C.x,hx.2⟩) rfl λ_ _ ⟨gc,er,hgc,da⟩=>⟨_,er,?_⟩;have D:=C.ext da;refine qZ 1 rfl<|nl<|ca<|cnd (p:=gc≠0) rfl (λea=>?_) (λea=>?_)
 .refine sZ rfl<|ret<|ba<|leave2 (v:=.string (ByteArray.mk #[])) (v':=vN 4) rfl rfl rfl ?_;exact ⟨_,4,rfl,.inl ⟨λh=>absurd (hgc.uniq h) ‹_›,rfl,rfl⟩,D.x⟩
 .refine skip<|aa<|seqJ λ_ fa ga _=>sj λ_ ha=>qt mv<|cl T.cf20 (FL rows a c _ (hs.ext D.x) hqb) rfl λ_ _ ⟨qr,er,hqr,ia⟩=>⟨_,er,?_⟩;have B:=D.ext ia;refine qt (aV rfl)<|nl<|ha<|cnd (p:=¬ (qr=true)) rfl (λja=>?_) (λja=>?_)
  .refine sZ rfl<|ret<|ga<|leave2 (v:=.string (ByteArray.mk #[])) (v':=vN 2) rfl rfl rfl ?_;exact ⟨_,2,rfl,.inr (.inl ⟨by have:=hgc;rwa [show gc=0 from Decidable.of_not_not ‹_›] at this,λh=>absurd (hqr.2 h) ‹_›,rfl,rfl⟩),B.x⟩
  .refine skip<|fa<|sj λ_ ka=>qR 1 (.d B 0 0 3 rfl .z) rfl rfl<|?_;have hgd:GoodC g.p 0:=by have:=hgc;rwa [show gc=0 from Decidable.of_not_not ‹_›] at this
   have hgz:=Iy hgd;have hqf:QF (rows.map (·.1)):=hqr.1 (Decidable.of_not_not ‹_›);refine cl T.cf47 (IZ g _ ⟨hx.1.ext B.x,hx.2⟩ hgz.1 hg) rfl λ_ _ ⟨rs,ms,am,cm,er,hrs,hrm,KS⟩=>⟨_,er,?_⟩;have la:=B.app' KS;refine qt asg<|nl<|ka<|seqJ λ_ ma J _=>sZ rfl<|blockJ λ_ _ K _ na=>ay (α:=Nat) (λx=>[(1,.slice a rows.length c),(6,.slice am ms.length cm),(7,vN x)]) (λx oa=>Hp No w0 oa [cQ 110 nQ am ms.length cm ms]/\x<=rows.length/\∀ q,q<x->j6 g.p (el rows q).1=none) (λx=>rows.length-x) (0) ⟨rfl,rfl,rfl,trivial⟩ ?_ ?_
   .refine ⟨(la.pick [0] (by decide)),?_⟩;(try dsimp only);exact ⟨Nat.zero_le _,λq h=>absurd h (Nat.not_lt_zero _)⟩
   .rintro Ha i Ia ⟨A,⟨hi,hq⟩⟩;(try dsimp only at hi hq);intro Ja L M pa;refine seqJ λ_ qa _ ra=>sZ rfl<|cnd (p:=i<rows.length) rfl (λsa=>?_) (λsa=>?_)
    .refine skip<|qa<|seqJ λ_ N O _=>blockJ λ_ ta R _ ua=>seqJ λ_ va _ wa=>sL (.f (hs.1.e A) 0 (i:=i) (by omega) rfl (.i .z)) rfl rfl<|cnd (p:=((el rows i).1.kind)=3) rfl (λE=>?_) (λE=>?_)
     .refine exit<|wa<|ua<|N<|rL (.a1 (by omega) .z) rfl rfl<|L _ ((i+1)) _ ⟨rfl,rfl,rfl,trivial⟩ ⟨(A.pick [0] (by decide)),?_⟩ ?_
      ·(try dsimp only);exact ⟨by omega,λq h=>(Nat.lt_or_ge q i).elim (hq q) λxa=>(by rw [show q=i by omega];first | exact wJ E | (rw [rO hrs hrm ‹_› hj hjp,if_neg E]))⟩
      ·(try dsimp only);omega
     .refine skip<|va<|sj λ_ U=>qR 7 (.f (hs.1.e A) 1 (i:=i) (by omega) rfl .z) rfl rfl<|cl T.cf48 (LQ ms am ms.length cm _ _ (A.srQ 0 rfl)) rfl λ_ _ hc71=>?_
      rcases hc71 with ⟨j,hj,rfl,hjp,X⟩ | ⟨rfl,hno,X⟩
      .refine ⟨_,rfl,?_⟩;have G:=A.ext X;refine qt asg<|nl<|U<|seqJ λ_ ya _ _=>sZ rfl<|cndN (p:=j<0) rfl ((Nat.not_lt_zero _))<|skip<|ya<|sD (.f (G.srQ 0 rfl) 1 (i:=j) (by omega) rfl (.f (hs.1.e G) 2 (i:=i) (by omega) rfl (.i .z))) rfl rfl (by kernel_rfl) λ_ za=>?_;have H:=G.ext za;refine cnd (p:=((el ms j).2.1)≠(((el rows i).1.args.length:Nat):Int)) rfl (λI=>?_) (λI=>?_)
       .refine sL (.f (hs.1.e H) 1 (i:=i) (by omega) rfl .z) rfl rfl<|ret<|R<|O<|M _ _<|K<|J<|leave2 (v:=.string ((el rows i).1.pred)) (v':=vN 12) rfl rfl rfl ?_;exact ⟨_,12,rfl,.inr (.inr (.inl ⟨hgd,hqf,nu hq ‹_› ((by rw [rO hrs hrm ‹_› hj hjp,if_pos ‹_›]))⟩)),H.x⟩
       .refine skip<|ta<|N<|rL (.a1 (by omega) .z) rfl rfl<|L _ ((i+1)) _ ⟨rfl,rfl,rfl,trivial⟩ ⟨(H.pick [0] (by decide)),?_⟩ ?_
        ·(try dsimp only);exact ⟨by omega,λq h=>(Nat.lt_or_ge q i).elim (hq q) λxa=>(by rw [show q=i by omega];first | exact wJ I | (rw [rO hrs hrm ‹_› hj hjp,if_neg I]))⟩
        ·(try dsimp only);omega
      .refine ⟨_,rfl,?_⟩;have V:=A.ext X;refine qt asg<|nl<|U<|seqJ λ_ _ Aa _=>sL (.i .z) rfl rfl<|cndY (p:=(-1)<0) rfl (not_not_intro (by decide))<|sL (.f (hs.1.e V) 1 (i:=i) (by omega) rfl .z) rfl rfl<|ret<|Aa<|R<|O<|M _ _<|K<|J<|leave2 (v:=.string ((el rows i).1.pred)) (v':=vN 400) rfl rfl rfl ?_;exact ⟨_,400,rfl,.inr (.inr (.inl ⟨hgd,hqf,nu hq ‹_› (I1 hrs hrm ‹_› hno)⟩)),V.x⟩
    .refine exit<|ra<|pa _ _ _<|na<|ma<|sj λ_ Ba=>qt mv<|cl T.cf39 (BK a rows.length c _) rfl λ_ _ ⟨er,Ca⟩=>⟨_,er,?_⟩;have W:=A.ext Ca;refine cl T.cf49 (yP (⟨MJ,[],rows,none,0,a,c⟩:Rx) _ ⟨⟨by simp [flat],none,0,rfl,Nat.le_refl _,by decide,.inl rfl⟩,hs.ext W.x⟩ hqb (yz (z:=(⟨MJ,[],rows,none,0,a,c⟩:Rx)) hqf.2)) rfl λ_ _ ⟨er,Da⟩=>⟨_,er,?_⟩;have Y:=W.ext Da;refine qt asg<|nl<|Ba<|seqJ λ_ Ea Fa _=>sZ rfl<|cnd (p:=((aQ (oH (rows.map (·.1)))).getD ByteArray.empty).toList≠(ByteArray.mk #[]).toList) rfl (λGa=>?_) (λGa=>?_)
     .refine sZ rfl<|ret<|Fa<|leave2 (v:=.string ((aQ (oH (rows.map (·.1)))).getD ByteArray.empty)) (v':=vN 14) rfl rfl rfl ?_;exact ⟨_,14,rfl,.inr (.inr (.inr (.inl ⟨hgd,hqf,oq λq h=>hq q (by omega),zV ‹_›,rfl⟩))),Y.x⟩
     .refine skip<|Ea<|sZ rfl<|ret<|leave2 (v:=.string (ByteArray.mk #[])) (v':=vN 0) rfl rfl rfl ?_;exact ⟨_,0,rfl,.inr (.inr (.inr (.inr ⟨hgd,hqf,oq λq h=>hq q (by omega),AA (xS hqf.2) (Decidable.of_not_not ‹_›),rfl,rfl⟩))),Y.x⟩
theorem Ou {s t:ByteArray} (h:bl s=bl t):s=t:=by
 unfold bl at h;obtain ⟨⟨a⟩⟩:=s;obtain ⟨⟨b⟩⟩:=t;have h':a.map UInt8.toNat=b.map UInt8.toNat:=by simpa using h
 have:a=b:=by
  have hi:∀ (a b:List UInt8),a.map UInt8.toNat=b.map UInt8.toNat->a=b:=by
   intro a
   induction a with
   | nil=>intro b h;cases b with
    | nil=>rfl
    | cons y b=>cases h
   | cons x a ih=>intro b h;cases b with
    | nil=>cases h
    | cons y b=>
     injection h with h1 h2
     rw [UInt8.toNat_inj.1 h1,ih b h2]
  exact hi a b h'
 rw [this]
def TextP (q:List Qlit) (t:ByteArray) (k:Nat):Prop:=(k=0/\QG q/\bl t=xY q++[63])\/(k=2/\t=ByteArray.mk #[]/\¬ QG q)
theorem TextP.uniq {q:List Qlit} {s t:ByteArray} {k m:Nat} (h:TextP q s k) (h':TextP q t m):s=t/\k=m:=by
 rcases h with ⟨h1,h2,h3⟩ | ⟨h1,h2,h3⟩ <;> rcases h' with ⟨g1,g2,g3⟩ | ⟨g1,g2,g3⟩
 .exact ⟨Ou (h3.trans g3.symm),h1.trans g1.symm⟩
 .exact absurd h2 g3
 .exact absurd g2 h3
 .exact ⟨h2.trans g2.symm,h1.trans g1.symm⟩
section
variable {rows zs:List Rw} {a:Option Addr} {c:Nat} {w0:World}
theorem Gv {h:Array Obj} (hb:BodyK h a c zs) (hz:zs.map (·.1)=rows.map (·.1)):Lits h a rows.length c zs:=by
 have:=(kL hz).1;rw [← this];exact hb.lits
theorem PT (hz:zs.map (·.1)=rows.map (·.1)) (hq:RuB (oH (rows.map (·.1)))):∀ i,i<rows.length->lZ (el zs i).1:=λi hi=>by
 have h:=kL hz;rw [h.2 i (by omega)];exact (lX hq).2 i hi
theorem QE (hz:zs.map (·.1)=rows.map (·.1)) (hs:Lits w0.heap a rows.length c zs) (hq:RuB (oH (rows.map (·.1)))) :
  Calls Tryz.prog 12 #[.slice a rows.length c] w0 λe w'=>∃ (t:ByteArray) (k:Nat),e= .returned (.tuple #[.string t,.int .i64 ((k:Nat):Int)])/\TextP (rows.map (·.1)) t k/\Ext w0 w':=
 (Le hs (lX hq).1 (PT hz hq)).mono λe w' ⟨t,k,h1,h2,h3⟩=>⟨t,k,h1,by rw [hz] at h2;exact h2,h3⟩
theorem OT {t:ByteArray} {k:Nat} (ht:TextP (rows.map (·.1)) t k) (hs:Lits w0.heap a rows.length c rows) (hq:RuB (oH (rows.map (·.1)))) :
  Calls Tryz.prog 13 #[.slice a rows.length c] w0 λe w'=>e= .returned (.tuple #[.string t,.int .i64 ((k:Nat):Int)])/\Ext w0 w':=
 (LB rows a c w0 hs (lX hq).2).mono λe w' h=>by
  rcases h with ⟨s,h1,h2,h3,h4⟩ | ⟨h1,h2,h3⟩
  .obtain ⟨rfl,rfl⟩:=ht.uniq (.inl ⟨rfl,h2,h3⟩);exact ⟨h1,h4⟩
  .obtain ⟨rfl,rfl⟩:=ht.uniq (.inr ⟨rfl,rfl,h2⟩);exact ⟨h1,h3⟩
abbrev gV (rows:List Rw):List ByteArray:=bX (oH (rows.map (·.1)))
theorem Qr (hz:zs.map (·.1)=rows.map (·.1)) (hs:Lits w0.heap a rows.length c zs) (hq:RuB (oH (rows.map (·.1)))) :
  Calls Tryz.prog 14 #[.slice a rows.length c] w0 λe w'=>∃ a c,e= .returned (.slice a (gV rows).length c)/\Hp No w0 w' [cQ 9 eS a (gV rows).length c (gV rows)]:=by
 have hl:=(kL hz).1;have h:=JP zs a c w0 (by rw [hl];exact hs) (by rw [hz];exact hq.ob);rw [hz,hl] at h;exact h
theorem Om {z g:Px} (hg:z.p=g.p) (hz:zs.map (·.1)=rows.map (·.1)) (hx:PxM w0.heap z) (hB:PgB g.p) (hs:Lits w0.heap a rows.length c zs) (hq:RuB (oH (rows.map (·.1)))) :
  Calls Tryz.prog 16 #[.agg z.cells.toArray,.slice a rows.length c] w0 λe w'=>∃ (s:ByteArray) (k:Nat),e= .returned (.tuple #[.string s,.int .i64 (k:Nat)])/\ChkQ g.p (rows.map (·.1)) s k/\Ext w0 w':=by
 have hl:=(kL hz).1;have h:=L5 z zs a c w0 ⟨hx,by rw [hg];exact hB⟩ (by rw [hl];exact hs) (by rw [hz];exact hq);rw [hz,hl,hg] at h;exact h
theorem KU {g:Px} {s:ByteArray} {k:Nat} (hk:ChkQ g.p (rows.map (·.1)) s k) (hx:PxM w0.heap g/\PgB g.p) (hs:Lits w0.heap a rows.length c rows) (hq:RuB (oH (rows.map (·.1)))) (hg:g.rules.length<=60) :
  Calls Tryz.prog 17 #[.agg g.cells.toArray,.slice a rows.length c] w0 λe w'=>e= .returned (.tuple #[.string s,.int .i64 (k:Nat)])/\Ext w0 w':=
 (Ig g rows a c w0 hx hs hq hg).mono λe w' ⟨t,m,h1,h2,h3⟩=>by
  obtain ⟨rfl,rfl⟩:=hk.uniq h2;exact ⟨h1,h3⟩
theorem Q6 {z g:Px} (hg:z.p=g.p) (hz:PgK w0.heap z) (hx:PxM w0.heap g):Calls Tryz.prog 18 #[.agg z.cells.toArray,.agg g.cells.toArray] w0 λe w'=>e= .returned (.bool true)/\Ext w0 w':=by
 obtain ⟨zi,za,zc,zo,zb,zd,zr,zx,zy⟩:=z;obtain ⟨gi,ga,gc,go,gb,gd,gr,gx,gy⟩:=g;obtain ⟨e1,e2,e3⟩:=Px.p_eq hg;dsimp only at e1 e2 e3;subst e1 e2;exact tT zi zo zr gr za ga zb gb zx gx zc gc zd gd zy gy w0 hz.1 hx.1 hz.2.1 hx.2.1 hz.2.2.1 hx.2.2.1 hz.2.2.2 hx.2.2.2 e3
theorem OY {b:Option Addr} {d:Nat} (hz:zs.map (·.1)=rows.map (·.1)) (hs:BodyK w0.heap a c zs) (hs2:Lits w0.heap b rows.length d rows):Calls Tryz.prog 19 #[.slice a rows.length c,.slice b rows.length d] w0 λe w'=>e= .returned (.bool true)/\Ext w0 w':=by
 have h:=sA zs rows a b c d w0 hs hs2 hz;rw [(kL hz).1] at h;exact h
end
theorem T.cf6:CF Tryz.prog 6:=λ_ _=>by kernel_rfl
theorem T.cf10:CF Tryz.prog 10:=λ_ _=>by kernel_rfl
theorem T.cf12:CF Tryz.prog 12:=λ_ _=>by kernel_rfl
theorem T.cf13:CF Tryz.prog 13:=λ_ _=>by kernel_rfl
theorem T.cf14:CF Tryz.prog 14:=λ_ _=>by kernel_rfl
theorem T.cf15:CF Tryz.prog 15:=λ_ _=>by kernel_rfl
theorem T.cf16:CF Tryz.prog 16:=λ_ _=>by kernel_rfl
theorem T.cf17:CF Tryz.prog 17:=λ_ _=>by kernel_rfl
theorem T.cf18:CF Tryz.prog 18:=λ_ _=>by kernel_rfl
theorem R9 (g:Px) (rows:List Rw) (a:Option Addr) (c:Nat) (w0:World) (hx:PxM w0.heap g/\PgB g.p) (hs:Lits w0.heap a rows.length c rows) (hqb:RuB (oH (rows.map (·.1)))) :
  Calls Tryz.prog 4 #[.agg g.cells.toArray,.slice a rows.length c] w0 λe w'=>e= .returned (.bool true)/\Ext w0 w':=by
 have hcap:=hs.1.cap;have hcr:=hx.1.2.2.1.cap;refine enter Tryz.func4 rfl 104 Tryz.ntmps4 rfl<|sj λ_ V=>st_e<|Ebx (v:=.agg g.cells.toArray) (Hp.start No w0) rfl λG _ B _=>qt asg<|nl<|V<|seqJ λ_ W X _=>sL (.b B 0 2 rfl .z) rfl rfl<|cnd (p:=60<g.rules.length) rfl (λY=>?_) (λY=>?_)
 .refine sj λ_ Z=>cl T.cf6 (II _) rfl λ_ _ ⟨er,aa⟩=>⟨_,er,?_⟩;have ba:=B.ext aa;exact qt asg<|nl<|Z<|ret<|X<|leave1 (v:=.bool true) rfl rfl<|⟨rfl,ba.x⟩
 .refine skip<|W<|sj λ_ ca=>qR 1 (.d B 0 0 3 rfl .z) rfl rfl<|cl T.cf10 (tU g _ ⟨hx.1.ext B.x,hx.2⟩) rfl λ_ _ ⟨z,cz,er,hzp,da,hpk⟩=>⟨_,er,?_⟩;have ea:=B.app' da;refine st_e<|Eal ea T.zv43 λH _ fa _=>st_s<|Est (v:=.agg z.cells.toArray) fa 0 T.sz43 rfl rfl rfl rfl rfl rfl λ_ I=>nl<|ca<|sj λ_ ga=>qt mv<|cl T.cf11 (sS rows _ _ _ (hs.ext I.x) (lX hqb).1 (λi hi=>((lX hqb).2 i hi).2.1)) rfl λ_ _ ⟨zs,la,lc,cy,er,hzl,hzm,ha,hbk⟩=>⟨_,er,?_⟩;have J:=I.app' ha;refine qt asg<|nl<|ga<|sj λ_ ia=>qt mv<|cl T.cf12 (QE hzm (Gv (hbk _ (J.at 0 rfl)) hzm) hqb) rfl λ_ _ ⟨t,k,er,htp,ja⟩=>⟨_,er,?_⟩;have K:=J.ext ja;refine qZ 5 rfl<|nl<|ia<|sj λ_ ka=>qt mv<|cl T.cf13 (OT htp (hs.ext K.x) hqb) rfl λ_ _ ⟨er,ma⟩=>⟨_,er,?_⟩;have L:=K.ext ma;refine qZ 5 rfl<|nl<|ka<|sj λ_ na=>qt mv<|cl T.cf14 (Qr hzm (Gv (hbk _ (L.at 0 rfl)) hzm) hqb) rfl λ_ _ ⟨va,vc,er,oa⟩=>⟨_,er,?_⟩;have M:=L.app' oa;refine qt mv<|cl T.cf15 (Ju rows _ _ _ (hs.ext M.x) hqb) rfl λ_ _ ⟨ua,uc,er,pa⟩=>⟨_,er,?_⟩;have C:=M.app' pa;refine qZ 2 rfl<|nl<|na<|sj λ_ qa=>qR 2 (.d C 3 0 3 rfl .z) rfl rfl<|cl T.cf16 (Om hzp hzm (hpk _ (C.at 4 rfl)).px hx.2 (Gv (hbk _ (C.at 2 rfl)) hzm) hqb) rfl λ_ _ ⟨s,m,er,hck,ra⟩=>⟨_,er,?_⟩;have D:=C.ext ra;refine qZ 5 rfl<|nl<|qa<|sj λ_ sa=>qR 2 (.d D 5 0 3 rfl .z) rfl rfl<|cl T.cf17 (KU hck ⟨hx.1.ext D.x,hx.2⟩ (hs.ext D.x) hqb (by omega)) rfl λ_ _ ⟨er,ta⟩=>⟨_,er,?_⟩;have wa:=D.ext ta;refine qZ 5 rfl<|nl<|sa<|seqJ λ_ xa _ _=>sj λ_ ya=>qZ 3 rfl<|st_if (p:=t.toList≠t.toList) (ai rfl) (λN=>?_) (λN=>?_)
  .exact absurd N (λh=>h rfl)
  .refine qZ 4 rfl<|st_if (p:=k≠k) (ai rfl) (λO=>?_) (λO=>?_)
   .exact absurd O (λh=>h rfl)
   .refine qZ 6 rfl<|st_if (p:=((gV rows).length)≠((gV rows).length)) (ai rfl) (λR=>?_) (λR=>?_)
    .exact absurd R (λh=>h rfl)
    .refine qZ 4 rfl<|st_if (p:=s.toList≠s.toList) (ai rfl) (λU=>?_) (λU=>?_)
     .exact absurd U (λh=>h rfl)
     .refine qZ 4 rfl<|nl<|ya<|cndN (p:=m≠m) rfl (λh=>h rfl)<|skip<|xa<|seqJ λ_ za _ _=>sZ rfl<|blockJ λ_ _ _ _ Aa=>ay (α:=Nat) (λx=>[(1,.slice a rows.length c),(2,.pointer (some ⟨G,0,none⟩)),(5,.pointer (some ⟨H,0,none⟩)),(6,.slice la rows.length lc),(11,.slice va ((gV rows).length) vc),(12,.slice ua ((gV rows).length) uc),(17,vN x)]) (λx Ba=>Hp No w0 Ba [cB G 43 g.cells,cB H 43 z.cells,cz,cy,cQ 9 eS va ((gV rows).length) vc (gV rows),cQ 9 eS ua ((gV rows).length) uc (gV rows)]/\x<=(gV rows).length) (λx=>(gV rows).length-x) (0) ⟨rfl,rfl,rfl,rfl,rfl,rfl,rfl,trivial⟩ ?_ ?_
      .refine ⟨(wa.pick [5,3,4,2,1,0] (by decide)),?_⟩;(try dsimp only);exact Nat.zero_le _
      .rintro Ra i Sa ⟨A,hi⟩;(try dsimp only at hi);intro Ta Ca Ua Da;have hvc:=(A.srQ 4 rfl).cap;refine seqJ λ_ Ea _ Fa=>sZ rfl<|cnd (p:=i<((gV rows).length)) rfl (λGa=>?_) (λGa=>?_)
       .refine skip<|Ea<|seqJ λ_ Ha _ _=>blockJ λ_ Ia _ _ _=>sD (.e (A.srQ 4 rfl) (i:=i) (by omega) (.e (A.srQ 5 rfl) (i:=i) (by omega) .z)) rfl rfl (by kernel_rfl) λ_ Ja=>?_;have Ka:=A.ext Ja;refine cndN (p:=(el (gV rows) i).toList≠(el (gV rows) i).toList) rfl (λh=>h rfl)<|skip<|Ia<|Ha<|rL (.a1 (by omega) .z) rfl rfl<|Ca _ ((i+1)) _ ⟨rfl,rfl,rfl,rfl,rfl,rfl,rfl,trivial⟩ ⟨(Ka.pick [0,1,2,3,4,5] (by decide)),?_⟩ ?_
        ·(try dsimp only);omega
        ·(try dsimp only);omega
       .refine exit<|Fa<|Da _ _ _<|Aa<|za<|sj λ_ La=>qR 2 (.d A 1 0 3 rfl (.d A 0 0 3 rfl .z)) rfl rfl<|cl T.cf18 (Q6 hzp (hpk _ (A.at 2 rfl)) (hx.1.ext A.x)) rfl λ_ _ ⟨er,Ma⟩=>⟨_,er,?_⟩;have E:=A.ext Ma;refine qZ 3 rfl<|st_gq 3 96 rfl rfl (by decide)<|cl T.cf19 (OY hzm (hbk _ (E.at 3 rfl)) (hs.ext E.x)) rfl λ_ _ ⟨er,Na⟩=>⟨_,er,?_⟩;have Oa:=E.ext Na;refine qZ 2 rfl<|st_gq 8 101 rfl rfl (by decide)<|cl T.cf6 (II _) rfl λ_ _ ⟨er,Pa⟩=>⟨_,er,?_⟩;have Qa:=Oa.ext Pa;exact qZ 2 rfl<|nl<|La<|ret<|leave1 (v:=.bool true) rfl rfl<|⟨rfl,Qa.x⟩
end Go.Proofs.YtljfgmedbjlkaaaGreat
