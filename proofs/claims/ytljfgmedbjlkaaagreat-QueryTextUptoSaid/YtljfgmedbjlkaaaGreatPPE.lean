/- A part of the engine: steps over the model. Over any program. -/
import Derived.Test.YtljfgmedbjlkaaaGreatTQ
import Derived.Test.YtljfgmedbjlkaaaGreatPGC
import Derived.Test.YtljfgmedbjlkaaaGreatQA
import Derived.Test.YtljfgmedbjlkaaaGreatVA
import Derived.Test.YtljfgmedbjlkaaaGreatVC
import Derived.Test.YtljfgmedbjlkaaaGreatVR
import Derived.Test.YtljfgmedbjlkaaaGreatProg
import Derived.Test.YtljfgmedbjlkaaaGreatPPD
namespace Go.Proofs.YtljfgmedbjlkaaaGreat
open Go.RowKit Go.Eng Go.QP Go.Maps Go.WideMaps
theorem T.cf87:CF Tryz.prog 87:=λ_ _=>by kernel_rfl
theorem T.sl95:SL Tryz.prog 95 100 7 64 (.agg #[.string ByteArray.empty,vN 0,.bool false,vN 0,vN 0,vN 0,vN 0]):=aY Tryz.underlying95 (by kernel_rfl) rfl (by decide)
theorem Rst.key {x:Px} {f:ByteArray->Option Ro} (hb:PgB x.p) (h:Rst x.p x.ins.length x.outs.length x.rules.length f) {s:ByteArray} (hs:(f s).isSome=true):s.size<=1048576:=by
 obtain ⟨r,hr⟩:=Option.isSome_iff_exists.1 hs;rw [h.roF] at hr;obtain ⟨u,hu,rfl⟩:=List.mem_map.1 (lK hr);exact Ak hb u hu
theorem FT {x:Px} {f:ByteArray->Option Ro} {left:ByteArray->Prop} {os:List Ro} (hb:PgB x.p) (h:Rst x.p x.ins.length x.outs.length x.rules.length f) (ho:OM (λr:Ro=>r.1) (λ_ a=>a) f left os):os.length<=1200000000000:=by
 have h1:=gp (L:=(au x.p).map (·.pr)) ho.nd λs hs=>by
  obtain ⟨r,hr,rfl⟩:=List.mem_map.1 hs;obtain ⟨y,a,h2,_,rfl⟩:=(ho.mem r).1 hr;rw [h.roF] at h2;rw [uu h2];exact lK h2
 rw [List.length_map,List.length_map] at h1;exact Nat.le_trans h1 (rX hb)
theorem C8 (g:Px) (w0:World) (hx:PxM w0.heap g/\PgB g.p) :
  Calls Tryz.prog 42 #[.agg g.cells.toArray] w0 λe w'=>(aA g.p≠0/\e= .returned (.tuple #[.slice none 0 0,.int .i64 (aA g.p:Nat)])/\Ext w0 w')\/
   (aA g.p=0/\∃ rs a c,e= .returned (.tuple #[.slice a rs.length c,.int .i64 0])/\RolesL g.p rs/\rs.length<=1200000000000/\Hp No w0 w' [cQ 100 eRo a rs.length c rs]):=by
 refine enter Tryz.func42 rfl 32 Tryz.ntmps42 rfl<|sj λ_ N=>st_e<|Ebx (v:=.agg g.cells.toArray) (Hp.start No w0) rfl λ_ _ A _=>qZ 2 rfl<|nl<|N<|sj λ_ G=>qR 1 (.d A 0 0 3 rfl .z) rfl rfl<|cl T.cf86 (yx g _ ⟨hx.1.ext A.x,hx.2⟩) rfl λ_ _ hc10=>?_
 rcases hc10 with ⟨uk,ui,us,hne,rfl,X⟩ | ⟨mb,n,f,O,rfl,hr,hn,K⟩
 .refine ⟨_,rfl,?_⟩;have R:=A.ext X;refine qZ 4 rfl<|st_e<|Eal R T.zv152 λ_ _ U _=>qt asg<|st_s<|Est (v:=.agg #[.int .i64 uk,.int .i64 ui,.string us]) U 0 T.sz152 rfl rfl rfl rfl rfl rfl λ_ V=>qt asg<|nl<|G<|seqJ λ_ _ W _=>sZ rfl<|cndY (p:=(aA g.p)≠0) rfl (not_not_intro hne)<|sZ rfl<|ret<|W<|leave2 (v:=.slice none 0 0) (v':=vN (aA g.p)) rfl rfl rfl ?_;exact .inl ⟨hne,rfl,V.x⟩
 .refine ⟨_,rfl,?_⟩;have Y:=A.app' K;refine qZ 4 rfl<|st_e<|Eal Y T.zv152 λ_ _ Z _=>qt asg<|st_s<|Est (v:=.agg #[vN 0,vN 0,.string ByteArray.empty]) Z 0 T.sz152 rfl rfl rfl rfl rfl rfl λ_ aa=>qt asg<|nl<|G<|seqJ λ_ ba _ _=>sZ rfl<|cndN (p:=0≠0) rfl ((λh=>h rfl))<|skip<|ba<|sZ rfl<|seqJ λ_ ca _ _=>sj λ_ da=>qt mv<|st_e<|Erg aa 1 rfl rfl Tryz.underlying162 (λy hy=>by have:=hr.key hx.2 hy;show _<=maxLen;have hmx:maxLen=9223372036854775807:=rfl;omega) λC _ ea fa=>nl<|da<|blockJ λ_ _ _ _ ga=>ay (α:=(ByteArray->Prop) × Nat × (List Ro) × (Option Addr) × Nat × Nat) (λx=>[(7,.slice x.2.2.2.1 x.2.2.2.2.2 x.2.2.2.2.1),(20,.pointer (some ⟨C,0,none⟩))]) (λx ha=>Hp No w0 ha [AL KS qF mb C n f x.1 x.2.1,cQ 100 eRo x.2.2.2.1 x.2.2.2.2.2 x.2.2.2.2.1 x.2.2.1]/\OM (λr:Ro=>r.1) (λ_ a=>a) f x.1 x.2.2.1/\x.2.2.2.2.2=x.2.2.1.length) (λx=>x.2.1) ((λB=>(f B).isSome=true),ea,[],none,0,0) ⟨rfl,rfl,trivial⟩ ?_ ?_
  .refine ⟨((fa.nilQ 100 eRo).pick [2,0] (by decide)),?_⟩;(try dsimp only);exact ⟨OM.start,rfl⟩
  .rintro Da ⟨left,cnt,os,aq,cq,m⟩ ia ⟨D,⟨hom,hm⟩⟩;(try dsimp only at hom hm);intro Ea ja Fa ka;dsimp only at D ⊢;have hmx:maxLen=9223372036854775807:=rfl;have hol:=FT hx.2 hr hom;refine sj λ_ H=>st_e<|Enx D 0 rfl rfl (λla=>?_) (λma a61 _ na _ oa pa _ qa ra=>?_)
   .refine qZ 1 rfl<|nl<|H<|seqJ λ_ _ _ sa=>cndF rfl<|exit<|sa<|ka _ _ _<|ga<|ca<|sj λ_ ta=>qt mv<|?_;have hol:=FT hx.2 hr hom;have I:Hp No w0 ia ([cQ 100 eRo aq m cq os]++[AL KS qF mb C n f left cnt]):=(D.pick [1,0] (by decide));refine cl T.cf87 (Oi I.startL (by omega)) rfl λ_ _ ⟨⟨v77,er⟩,rs78,hp79,hs80,ua⟩=>⟨_,er,?_⟩;have va:=I.callL ua;refine nl<|ta<|sZ rfl<|ret<|leave2 (v:=.slice aq m cq) (v':=vN 0) rfl rfl rfl ?_;have hall:∀ r,r ∈ os↔roF g.p r.1=some r:=λr=>(hom.done la r).trans ⟨λ⟨y,a,J,wa⟩=>by subst wa;rw [← hr.roF];have:=uu ((hr.roF y).symm.trans J);rw [this];exact J,λh=>⟨r.1,r,by rw [hr.roF];exact h,rfl⟩⟩;have hrs:=wS hp79 hom.nd hall (by rw [← hm];exact hs80);have hlen:=hp79.length_eq;rw [← hm] at hlen;subst hlen;exact .inr ⟨O,_,_,_,rfl,hrs,by omega,(va.pick [0] (by decide))⟩
   .refine qZ 1 rfl<|nl<|H<|seqJ λ_ xa _ _=>cndT rfl<|skip<|xa<|blockJ λ_ ya _ _ _=>sj λ_ za=>qt (Nh rfl ra)<|qZ 1 rfl<|st_e<|Eal qa T.zv100 λ_ _ Aa _=>st_s<|Est (v:=.agg (rQ a61).toArray) Aa 0 T.sz100 rfl rfl rfl rfl rfl rfl λ_ L=>nl<|za<|region<|qR 2 (.d L 0 0 7 rfl .z) rfl rfl<|st_e<|Ebs (cs:=(rQ a61)) (e:=100) L (λ_=>by kernel_rfl) λ_ _ M _=>st_e<|EapQ M 3 T.sl95 rfl rfl rfl (M.lst (E:=eRo) 0 rfl a61 rfl) (by omega) rfl rfl λa105 Ba _ Ca=>qt asg<|nl<|ya<|ja _ ((λB=>(left) B/\B≠ma),na,(os++[a61]),a105,Ba,(m+1)) _ ⟨rfl,rfl,trivial⟩ ⟨(Ca.pick [2,3] (by decide)),?_⟩ ?_
    ·(try dsimp only);exact ⟨hom.step (mk:=λ_ a=>a) (λy a h=>uu ((hr.roF y).symm.trans h)) oa pa,by rw [List.length_append,hm];rfl⟩
    ·(try dsimp only);omega
theorem T.cf79:CF Tryz.prog 79:=λ_ _=>by kernel_rfl
theorem T.cf200:CF Tryz.prog 200:=λ_ _=>by kernel_rfl
theorem T.cf201:CF Tryz.prog 201:=λ_ _=>by kernel_rfl
theorem T.zv227:ZV Tryz.prog 227 (.agg #[.string ByteArray.empty,.string ByteArray.empty,.bool false]):=λ_=>by kernel_rfl
theorem T.sz227:SZ Tryz.prog 227 3:=λ_=>by kernel_rfl
theorem T.sl222:SL Tryz.prog 222 227 3 40 (.agg #[.string ByteArray.empty,.string ByteArray.empty,.bool false]):=aY Tryz.underlying222 (by kernel_rfl) rfl (by decide)
theorem JZ {xs:List Dp} {f:Dp->Option Bool} (h:inM xs f) (d:Dp):(f d).isSome=true↔d ∈ xs:=by
 rw [h d]
 by_cases e:d ∈ xs
 .rw [if_pos e];exact ⟨λ_=>e,λ_=>rfl⟩
 .rw [if_neg e];exact ⟨λq=>(by cases q),λq=>absurd q e⟩
theorem CZ {x:Px} {f:Dp->Option Bool} {left:Dp->Prop} {os:List Dp} (hb:PgB x.p) (h:∀ d,(f d).isSome=true↔d ∈ kQ x.p) (ho:OM (λd:Dp=>d) (λy _=>y) f left os):os.length<=1200000000000:=by
 have h1:=gp (L:=kQ x.p) ho.nd λs hs=>by
  obtain ⟨r,hr,rfl⟩:=List.mem_map.1 hs;obtain ⟨y,a,h2,_,rfl⟩:=(ho.mem r).1 hr;exact (h _).1 (by rw [h2];rfl)
 rw [List.length_map] at h1;rw [nT] at h1;exact Nat.le_trans h1 (Nat.le_trans (BG hb) (by decide))
theorem KJ (g:Px) (w0:World) (hx:PxM w0.heap g/\PgB g.p) :
  Calls Tryz.prog 136 #[.agg g.cells.toArray] w0 λe w'=>(aA g.p≠0/\e= .returned (.tuple #[.slice none 0 0,.int .i64 (aA g.p:Nat)])/\Ext w0 w')\/
   (aA g.p=0/\∃ ds a c,e= .returned (.tuple #[.slice a ds.length c,.int .i64 0])/\rz g.p ds/\ds.length<=1200000000000/\Hp No w0 w' [cQ 227 eDp a ds.length c ds]):=by
 refine enter Tryz.func136 rfl 30 Tryz.ntmps136 rfl<|sj λ_ M=>st_e<|Ebx (v:=.agg g.cells.toArray) (Hp.start No w0) rfl λ_ _ D _=>qZ 2 rfl<|nl<|M<|seqJ λ_ N O _=>sj λ_ R=>qR 1 (.d D 0 0 3 rfl .z) rfl rfl<|cl T.cf79 (BS g _ ⟨hx.1.ext D.x,hx.2⟩) rfl λ_ _ ⟨uk,ui,us,er,U⟩=>⟨_,er,?_⟩;have V:=D.ext U;refine qZ 3 rfl<|st_e<|Eal V T.zv152 λ_ _ W _=>st_s<|Est (v:=.agg #[.int .i64 uk,.int .i64 ui,.string us]) W 0 T.sz152 rfl rfl rfl rfl rfl rfl λ_ B=>qt asg<|nl<|R<|sZ rfl<|cnd (p:=(aA g.p)≠0) rfl (λX=>?_) (λX=>?_)
 .refine sZ rfl<|ret<|O<|leave2 (v:=.slice none 0 0) (v':=vN (aA g.p)) rfl rfl rfl ?_;exact .inl ⟨by assumption,rfl,B.x⟩
 .refine skip<|N<|sZ rfl<|seqJ λ_ Y _ _=>sj λ_ Z=>qR 1 (.d B 1 0 3 rfl .z) rfl rfl<|cl T.cf200 (AV g _ ⟨hx.1.ext B.x,hx.2⟩) rfl λ_ _ ⟨mb,f,n,er,hr,hn,aa⟩=>⟨_,er,?_⟩;have ba:=B.app' aa;have hmem:=JZ hr;refine st_e<|Erg ba 0 rfl rfl Tryz.underlying313 (λy hy=>by have:=Fv hx.2 y ((hmem y).1 hy);have hmx:maxLen=9223372036854775807:=rfl;exact ⟨by show _<=maxLen;omega,by show _<=maxLen;omega⟩) λG _ ca da=>nl<|Z<|blockJ λ_ _ _ _ ea=>ay (α:=(Dp->Prop) × Nat × (List Dp) × (Option Addr) × Nat × Nat) (λx=>[(6,.slice x.2.2.2.1 x.2.2.2.2.2 x.2.2.2.2.1),(18,.pointer (some ⟨G,0,none⟩))]) (λx fa=>Hp No w0 fa [AL (DP T.kd227) Value.bool mb G n f x.1 x.2.1,cQ 227 eDp x.2.2.2.1 x.2.2.2.2.2 x.2.2.2.2.1 x.2.2.1]/\OM (λd:Dp=>d) (λ(y:Dp) (_:Bool)=>y) f x.1 x.2.2.1/\x.2.2.2.2.2=x.2.2.1.length) (λx=>x.2.1) ((λC=>(f C).isSome=true),ca,[],none,0,0) ⟨rfl,rfl,trivial⟩ ?_ ?_
  .refine ⟨((da.nilQ 227 eDp).pick [1,0] (by decide)),?_⟩;(try dsimp only);exact ⟨OM.start,rfl⟩
  .rintro Ba ⟨left,cnt,os,aq,cq,m⟩ ga ⟨H,⟨hom,hm⟩⟩;(try dsimp only at hom hm);intro Ca ha Da ia;dsimp only at H ⊢;have hmx:maxLen=9223372036854775807:=rfl;have hol:=CZ hx.2 hmem hom;refine sj λ_ I=>st_e<|Enx H 0 rfl rfl (λja=>?_) (λA a54 _ ka _ la ma _ na oa=>?_)
   .refine qZ 1 rfl<|nl<|I<|seqJ λ_ _ _ pa=>cndF rfl<|exit<|pa<|ia _ _ _<|ea<|Y<|sj λ_ qa=>qt mv<|?_;have hol:=CZ hx.2 hmem hom;have J:Hp No w0 ga ([cQ 227 eDp aq m cq os]++[AL (DP T.kd227) Value.bool mb G n f left cnt]):=(H.pick [1,0] (by decide));refine cl T.cf201 (KA J.startL (by omega)) rfl λ_ _ ⟨⟨v70,er⟩,ds71,hp72,hs73,ra⟩=>⟨_,er,?_⟩;have sa:=J.callL ra;refine nl<|qa<|sZ rfl<|ret<|leave2 (v:=.slice aq m cq) (v':=vN 0) rfl rfl rfl ?_;have hall:∀ d,d ∈ os↔d ∈ kQ g.p:=λd=>(hom.done ja d).trans ⟨λ⟨y,a,ta,ua⟩=>by subst ua;exact (hmem d).1 (by rw [ta];rfl),λh=>by obtain ⟨b,hb⟩:=Option.isSome_iff_exists.1 ((hmem d).2 h);exact ⟨d,b,hb,rfl⟩⟩;have hds:=yo hp72 (by have:=hom.nd;rwa [show os.map (λd:Dp=>d)=os from List.map_id _] at this) hall (by rw [← hm];exact hs73);have hlen:=hp72.length_eq;rw [← hm] at hlen;subst hlen;exact .inr ⟨Decidable.of_not_not ‹_›,_,_,_,rfl,hds,by omega,(sa.pick [0] (by decide))⟩
   .refine qZ 1 rfl<|nl<|I<|seqJ λ_ va _ _=>cndT rfl<|skip<|va<|blockJ λ_ wa _ _ _=>sj λ_ xa=>qt (Nh rfl oa)<|qZ 1 rfl<|st_e<|Eal na T.zv227 λ_ _ ya _=>st_s<|Est (v:=.agg #[.string A.1,.string A.2.1,.bool A.2.2]) ya 0 T.sz227 rfl rfl rfl rfl rfl rfl λ_ K=>nl<|xa<|region<|qR 2 (.d K 0 0 3 rfl .z) rfl rfl<|st_e<|Ebs (cs:=[.string A.1,.string A.2.1,.bool A.2.2]) (e:=227) K (λ_=>by kernel_rfl) λ_ _ L _=>st_e<|EapQ L 3 T.sl222 rfl rfl rfl (L.lst (E:=eDp) 0 rfl A rfl) (by omega) rfl rfl λa98 za _ Aa=>qt asg<|nl<|wa<|ha _ ((λC=>(left) C/\C≠A),ka,(os++[A]),a98,za,(m+1)) _ ⟨rfl,rfl,trivial⟩ ⟨(Aa.pick [2,3] (by decide)),?_⟩ ?_
    ·(try dsimp only);exact ⟨hom.step (mk:=λ(y:Dp) (_:Bool)=>y) (λy a h=>rfl) la ma,by rw [List.length_append,hm];rfl⟩
    ·(try dsimp only);omega
theorem T.cf42:CF Tryz.prog 42:=λ_ _=>by kernel_rfl
theorem T.cf136:CF Tryz.prog 136:=λ_ _=>by kernel_rfl
theorem T.sl157:SL Tryz.prog 157 229 2 24 (.agg #[.string ByteArray.empty,vN 0]):=aY Tryz.underlying157 (by kernel_rfl) rfl (by decide)
theorem LJ (g:Px) (w0:World) (hx:PxM w0.heap g/\PgB g.p) (h0:aA g.p=0) :
  Calls Tryz.prog 136 #[.agg g.cells.toArray] w0 λe w'=>∃ ds a c,e= .returned (.tuple #[.slice a ds.length c,.int .i64 0])/\rz g.p ds/\ds.length<=1200000000000/\Hp No w0 w' [cQ 227 eDp a ds.length c ds]:=by
 refine (KJ g w0 hx).mono λe w' h=>?_
 rcases h with ⟨h,_⟩ | ⟨_,h⟩
 .exact absurd h0 h
 .exact h
theorem Ox (ps:List ByteArray) {n:Nat} (h:ps.length=n) (hn:n<=271581184):qo ps (λ_=>none)<=271581184 * 271581184:=by
 have:∀ (l:List ByteArray) (k:Nat),(l.map λ_=>k).sum=l.length * k:=λl k=>by
  induction l with
  | nil=>simp
  | cons x l ih=>simp only [List.map_cons,List.sum_cons,List.length_cons,Nat.add_mul,Nat.one_mul];omega
 unfold qo;show (ps.map λ_=>ps.length-0).sum<=_;rw [this];exact Nat.mul_le_mul (by omega) (by omega)
theorem GN {ds:List Dp} {f:ByteArray->Option Nat} (h:∀ q,q<ds.length->(f (el ds q).2.1).getD 0+ng (el ds q)<=(f (el ds q).1).getD 0):SolL ds (λs=>(f s).getD 0):=by
 intro d hd;obtain ⟨q,hq,rfl⟩:=aU hd;exact h q hq
theorem Nv {p:Pg} {rs:List Ro} (hb:PgB p) (h:RolesL p rs) {r:Ro} (hr:r ∈ rs):r.1.size<=1048576:=by
 obtain ⟨u,hu,e⟩:=List.mem_map.1 (lK ((h.2 r).1 hr));rw [← e];exact Ak hb u hu
theorem Ik (g:Px) (w0:World) (hx:PxM w0.heap g/\PgB g.p) :
  Calls Tryz.prog 81 #[.agg g.cells.toArray] w0 λe w'=>(aA g.p≠0/\e= .returned (.tuple #[.slice none 0 0,.int .i64 (aA g.p:Nat)])/\Ext w0 w')\/
   (aA g.p=0/\¬ Solv (kQ g.p)/\e= .returned (.tuple #[.slice none 0 0,.int .i64 15])/\Ext w0 w')\/
   (aA g.p=0/\∃ L rs a c,e= .returned (.tuple #[.slice a rs.length c,.int .i64 0])/\RolesL g.p rs/\rs.length<=1200000000000/\QJ (kQ g.p) L/\Hp No w0 w' [cQ 229 IQ a rs.length c (rs.map λr=>(r.1,L r.1))]):=by
 refine enter Tryz.func81 rfl 78 Tryz.ntmps81 rfl<|sj λ_ va=>st_e<|Ebx (v:=.agg g.cells.toArray) (Hp.start No w0) rfl λ_ _ G _=>qZ 2 rfl<|nl<|va<|scopeS (l:=0) rfl λ_ _ H _=>sj λ_ W=>qR 1 (.d G 0 0 3 rfl .z) rfl rfl<|cl T.cf42 (C8 g _ ⟨hx.1.ext G.x,hx.2⟩) rfl λ_ _ hc14=>?_
 rcases hc14 with ⟨hne,rfl,X⟩ | ⟨C,rs,ra,rc,rfl,hrs,hrl,K⟩
 .refine ⟨_,rfl,?_⟩;have wa:=G.ext X;refine qZ 5 rfl<|nl<|W<|seqJ λ_ _ xa _=>sZ rfl<|cndY (p:=(aA g.p)≠0) rfl (not_not_intro hne)<|sZ rfl<|ret<|xa<|H _ _<|leave2 (v:=.slice none 0 0) (v':=vN (aA g.p)) rfl rfl rfl ?_;exact .inl ⟨hne,rfl,wa.x⟩
 .refine ⟨_,rfl,?_⟩;have N:=G.app' K;have hps:(rs.map (·.1)).length=rs.length:=List.length_map _;refine qZ 5 rfl<|nl<|W<|seqJ λ_ ya _ _=>sZ rfl<|cndN (p:=0≠0) rfl ((λh=>h rfl))<|skip<|ya<|sj λ_ za=>qR 1 (.d N 1 0 3 rfl .z) rfl rfl<|?_;have hdd:=LJ g _ ⟨hx.1.ext N.x,hx.2⟩ C;refine cl T.cf136 (hdd) rfl λ_ _ ⟨ds,da,dc,er,hds,hdl,Aa⟩=>⟨_,er,?_⟩;have Ba:=N.app' Aa;have hsv:=Solv.congr hds.2;have hq1:∀ d ∈ ds,d.1 ∈ rs.map (·.1):=λd hd=>hrs.has (ny ((hds.2 d).1 hd)).1;have hq2:∀ d ∈ ds,d.2.1 ∈ rs.map (·.1):=λd hd=>hrs.has (ny ((hds.2 d).1 hd)).2;have hsz:∀ d ∈ ds,d.1.size<=1048576/\d.2.1.size<=1048576:=λd hd=>Fv hx.2 d ((hds.2 d).1 hd);refine qZ 5 rfl<|nl<|za<|sj λ_ Ca=>qZ 2 rfl<|st_e<|EmmS KS Ru Ba Tryz.underlying225 rfl λB _ Da _=>qt asg<|nl<|Ca<|seqJ λ_ Ea _ _=>Pi<|Ea<|seqJ λ_ Fa Y _=>blockJ λ_ _ Z _ Ga=>ay (α:=(ByteArray->Option Nat) × Nat) (λx=>[(4,.slice ra rs.length rc),(6,.slice da ds.length dc),(8,.map (some B))]) (λx Ha=>Hp No w0 Ha [cQ 100 eRo ra rs.length rc rs,cQ 227 eDp da ds.length dc ds,dh KS Ru B x.2 x.1]/\LvI ds (rs.map (·.1)).length x.1/\x.2+qo (rs.map (·.1)) x.1<=qo (rs.map (·.1)) (λ_=>none)) (λx=>qo (rs.map (·.1)) x.1) ((λ_=>none),0) ⟨rfl,rfl,rfl,trivial⟩ ?_ ?_
  .refine ⟨(Da.pick [2,1,0] (by decide)),?_⟩;(try dsimp only);exact ⟨LvI.start,by rw [Nat.zero_add];exact Nat.le_refl _⟩
  .rintro yb ⟨f,n⟩ zb ⟨aa,⟨hl,hn⟩⟩;(try dsimp only at hl hn);intro Ab ba ca Ia;dsimp only at aa ⊢;have hmx:maxLen=9223372036854775807:=rfl;have htg:=Ox (rs.map (·.1)) hps (hrs.len hx.2 C);refine blockJ λ_ _ ea Ja fa=>seqJ λ_ Ka ga ha=>sZ rfl<|blockJ λ_ _ ia ja La=>ay (α:=Nat) (λx=>[(4,.slice ra rs.length rc),(6,.slice da ds.length dc),(8,.map (some B)),(31,.slice da ds.length dc),(32,vN ds.length),(33,vN x)]) (λx Ma=>Hp No w0 Ma [cQ 100 eRo ra rs.length rc rs,cQ 227 eDp da ds.length dc ds,dh KS Ru B n f]/\x<=ds.length/\∀ q,q<x->(f (el ds q).2.1).getD 0+ng (el ds q)<=(f (el ds q).1).getD 0) (λx=>ds.length-x) (0) ⟨rfl,rfl,rfl,rfl,rfl,rfl,trivial⟩ ?_ ?_
   .refine ⟨(aa.pick [0,1,2] (by decide)),?_⟩;(try dsimp only);exact ⟨Nat.zero_le _,λq h=>absurd h (Nat.not_lt_zero _)⟩
   .rintro Bb i Cb ⟨O,⟨hi,hq⟩⟩;(try dsimp only at hi hq);intro Db ka la R;have hlb:=hl.2 (el ds i).2.1;refine sZ rfl<|seqJ λ_ Na _ Oa=>cnd (p:=i<ds.length) rfl (λPa=>?_) (λPa=>?_)
    .refine skip<|Na<|seqJ λ_ ma na oa=>blockJ λ_ pa qa sa _=>sj λ_ Qa=>qR 2 (.e (O.srQ 1 rfl) (i:=i) (by omega) .z) rfl rfl<|st_e<|Eal O T.zv227 λ_ _ Ra _=>st_s<|Est (v:=.agg #[.string ((el ds i).1),.string ((el ds i).2.1),.bool ((el ds i).2.2)]) Ra 0 T.sz227 rfl rfl rfl rfl rfl rfl λ_ A=>nl<|Qa<|sj λ_ Sa=>qR 3 (.b A 0 1 rfl .z) rfl rfl<|qt (kU (d:=0) (y:=((el ds i).2.1)) (A.mp 3 rfl) rfl rfl Tryz.underlying225 T.zv3 (by show _<=maxLen;have:=(hsz _ (ak (xs:=ds) (i:=i) ‹_›)).2;omega))<|qt asg<|nl<|Sa<|seqJ λ_ ta _ _=>sL (.b A 0 2 rfl .z) rfl rfl<|cndB (b:=(el ds i).2.2) rfl (λTa=>?_) (λTa=>?_)
     .refine rL (.a1 (by omega) .z) rfl rfl<|ta<|seqJ λ_ Ua Va _=>sj λ_ Wa=>qZ 3 rfl<|?_;have hng:ng (el ds i)=1:=if_pos ‹_›;refine qt (Au rfl rfl)<|nl<|Wa<|cnd (p:=rs.length<(((f ((el ds i).2.1)).getD 0)+1)) rfl (λXa=>?_) (λXa=>?_)
      .refine sZ rfl<|ret<|Va<|qa<|na<|la _ _<|ia<|ga<|ea<|ca _ _<|Z<|Y<|H _ _<|leave2 (v:=.slice none 0 0) (v':=vN 15) rfl rfl rfl ?_;exact .inr (.inl ⟨C,λh=>hl.bad hq2 (ak (xs:=ds) (i:=i) ‹_›) (by omega) (hsv.2 h),rfl,A.x⟩)
      .refine skip<|Ua<|sj λ_ Ya=>qR 3 (.b A 0 0 rfl .z) rfl rfl<|qt (kU (d:=0) (y:=((el ds i).1)) (A.mp 3 rfl) rfl rfl Tryz.underlying225 T.zv3 (by show _<=maxLen;have:=(hsz _ (ak (xs:=ds) (i:=i) ‹_›)).1;omega))<|qZ 2 rfl<|nl<|Ya<|cnd (p:=((f ((el ds i).1)).getD 0)<(((f ((el ds i).2.1)).getD 0)+1)) rfl (λU=>?_) (λU=>?_)
       .refine sj λ_ Za=>qR 4 (.b A 0 0 rfl .z) rfl rfl<|st_s<|Emu (y:=((el ds i).1)) (a:=(((f ((el ds i).2.1)).getD 0)+1)) A 3 rfl rfl rfl rfl Tryz.underlying225 (by show _<=maxLen;have:=(hsz _ (ak (xs:=ds) (i:=i) ‹_›)).1;omega) (by omega) λ_ bb=>nl<|Za<|exit<|sa rfl<|oa<|R _ _ _<|ja rfl<|ha<|fa<|ba _ (λD=>if D=((el ds i).1) then some (((f ((el ds i).2.1)).getD 0)+1) else f D,n+1) _ ⟨rfl,rfl,rfl,trivial⟩ ⟨(bb.pick [1,2,3] (by decide)),?_⟩ ?_
        ·(try dsimp only);exact ⟨hl.up (ak (xs:=ds) (i:=i) ‹_›) (by omega) (by omega),by have:=oh (f:=f) (hq1 _ (ak (xs:=ds) (i:=i) ‹_›)) U (by omega);omega⟩
        .exact oh (f:=f) (hq1 _ (ak (xs:=ds) (i:=i) ‹_›)) U (by omega)
       .refine skip<|pa<|ma<|rL (.a1 (by omega) .z) rfl rfl<|ka _ ((i+1)) _ ⟨rfl,rfl,rfl,rfl,rfl,rfl,trivial⟩ ⟨(A.pick [1,2,3] (by decide)),?_⟩ ?_
        ·(try dsimp only);exact ⟨by omega,λq h=>(Nat.lt_or_ge q i).elim (hq q) λcb=>(by rw [show q=i by omega];omega)⟩
        ·(try dsimp only);omega
     .refine skip<|ta<|seqJ λ_ db eb _=>sj λ_ fb=>qZ 3 rfl<|?_;have hng:ng (el ds i)=0:=if_neg (ne_true_of_eq_false ‹_›);refine qt (Au rfl rfl)<|nl<|fb<|cnd (p:=rs.length<((f ((el ds i).2.1)).getD 0)) rfl (λgb=>?_) (λgb=>?_)
      .refine sZ rfl<|ret<|eb<|qa<|na<|la _ _<|ia<|ga<|ea<|ca _ _<|Z<|Y<|H _ _<|leave2 (v:=.slice none 0 0) (v':=vN 15) rfl rfl rfl ?_;exact .inr (.inl ⟨C,λh=>hl.bad hq2 (ak (xs:=ds) (i:=i) ‹_›) (by omega) (hsv.2 h),rfl,A.x⟩)
      .refine skip<|db<|sj λ_ hb=>qR 3 (.b A 0 0 rfl .z) rfl rfl<|qt (kU (d:=0) (y:=((el ds i).1)) (A.mp 3 rfl) rfl rfl Tryz.underlying225 T.zv3 (by show _<=maxLen;have:=(hsz _ (ak (xs:=ds) (i:=i) ‹_›)).1;omega))<|qZ 2 rfl<|nl<|hb<|cnd (p:=((f ((el ds i).1)).getD 0)<((f ((el ds i).2.1)).getD 0)) rfl (λV=>?_) (λV=>?_)
       .refine sj λ_ ib=>qR 4 (.b A 0 0 rfl .z) rfl rfl<|st_s<|Emu (y:=((el ds i).1)) (a:=((f ((el ds i).2.1)).getD 0)) A 3 rfl rfl rfl rfl Tryz.underlying225 (by show _<=maxLen;have:=(hsz _ (ak (xs:=ds) (i:=i) ‹_›)).1;omega) (by omega) λ_ jb=>nl<|ib<|exit<|sa rfl<|oa<|R _ _ _<|ja rfl<|ha<|fa<|ba _ (λD=>if D=((el ds i).1) then some ((f ((el ds i).2.1)).getD 0) else f D,n+1) _ ⟨rfl,rfl,rfl,trivial⟩ ⟨(jb.pick [1,2,3] (by decide)),?_⟩ ?_
        ·(try dsimp only);exact ⟨hl.up (ak (xs:=ds) (i:=i) ‹_›) (by omega) (by omega),by have:=oh (f:=f) (hq1 _ (ak (xs:=ds) (i:=i) ‹_›)) V (by omega);omega⟩
        .exact oh (f:=f) (hq1 _ (ak (xs:=ds) (i:=i) ‹_›)) V (by omega)
       .refine skip<|pa<|ma<|rL (.a1 (by omega) .z) rfl rfl<|ka _ ((i+1)) _ ⟨rfl,rfl,rfl,rfl,rfl,rfl,trivial⟩ ⟨(A.pick [1,2,3] (by decide)),?_⟩ ?_
        ·(try dsimp only);exact ⟨by omega,λq h=>(Nat.lt_or_ge q i).elim (hq q) λcb=>(by rw [show q=i by omega];omega)⟩
        ·(try dsimp only);omega
    .refine exit<|Oa<|R _ _ _<|La<|Ka<|exit<|Ja rfl<|Ia _ _ _<|Ga<|Fa<|sZ rfl<|seqJ λ_ kb _ _=>sZ rfl<|blockJ λ_ _ _ _ lb=>ay (α:=Nat × (List Ti) × (Option Addr) × Nat × Nat) (λx=>[(8,.map (some B)),(12,.slice x.2.2.1 x.2.2.2.2 x.2.2.2.1),(60,.slice ra rs.length rc),(61,vN rs.length),(62,vN x.1)]) (λx mb=>Hp No w0 mb [cQ 100 eRo ra rs.length rc rs,dh KS Ru B n f,cQ 229 IQ x.2.2.1 x.2.2.2.2 x.2.2.2.1 x.2.1]/\x.1<=rs.length/\x.2.2.2.2=x.2.1.length/\x.2.1=(rs.take x.1).map λr=>(r.1,(f r.1).getD 0)) (λx=>rs.length-x.1) (0,[],none,0,0) ⟨rfl,rfl,rfl,rfl,rfl,trivial⟩ ?_ ?_
     .refine ⟨((O.nilQ 229 IQ).pick [1,3,0] (by decide)),?_⟩;(try dsimp only);exact ⟨Nat.zero_le _,rfl,rfl⟩
     .rintro Eb ⟨j,ts,aq,cq,m⟩ Fb ⟨I,⟨hj,hm,hts⟩⟩;(try dsimp only at hj hm hts);intro Gb nb Hb ob;dsimp only at I ⊢;have htl:ts.length=j:=by rw [hts,List.length_map,List.length_take];omega
      have hmx:maxLen=9223372036854775807:=rfl;refine sZ rfl<|seqJ λ_ pb _ qb=>cnd (p:=j<rs.length) rfl (λrb=>?_) (λrb=>?_)
      .refine skip<|pb<|seqJ λ_ sb _ _=>blockJ λ_ tb _ _ _=>sj λ_ ub=>qR 2 (.e (I.srQ 0 rfl) (i:=j) (by omega) .z) rfl rfl<|st_e<|Eal I T.zv100 λ_ _ vb _=>st_s<|Est (v:=.agg (rQ (el rs j)).toArray) vb 0 T.sz100 rfl rfl rfl rfl rfl rfl λ_ J=>nl<|ub<|region<|qR 6 (.b J 0 0 rfl (.b J 0 0 rfl .z)) rfl rfl<|qt (kU (d:=0) (y:=((el rs j).1)) (J.mp 2 rfl) rfl rfl Tryz.underlying225 T.zv3 (by show _<=maxLen;have:=Nv hx.2 hrs (ak (xs:=rs) (i:=j) ‹_›);omega))<|qt (v:=.agg #[.string ((el rs j).1),vN ((f ((el rs j).1)).getD 0)]) (aw (λ_=>by kernel_rfl))<|st_e<|Ebs (cs:=[.string ((el rs j).1),vN ((f ((el rs j).1)).getD 0)]) (e:=229) J (λ_=>by kernel_rfl) λ_ _ ua _=>st_e<|EapQ ua 4 T.sl157 rfl rfl rfl (ua.lst (E:=IQ) 0 rfl ((el rs j).1,((f ((el rs j).1)).getD 0)) rfl) (by omega) rfl rfl λa181 wb _ xb=>qt asg<|nl<|tb<|sb<|rL (.a1 (by omega) .z) rfl rfl<|nb _ ((j+1),(ts++[((el rs j).1,((f ((el rs j).1)).getD 0))]),a181,wb,(m+1)) _ ⟨rfl,rfl,rfl,rfl,rfl,trivial⟩ ⟨(xb.pick [2,3,4] (by decide)),?_⟩ ?_
       ·(try dsimp only);exact ⟨by omega,by rw [List.length_append,hm];rfl,by rw [eG ‹_›,List.map_append,← hts];rfl⟩
       ·(try dsimp only);omega
      .refine exit<|qb<|ob _ _ _<|lb<|kb<|sZ rfl<|ret<|H _ _<|leave2 (v:=.slice aq m cq) (v':=vN 0) rfl rfl rfl ?_;have e:ts=rs.map λr=>(r.1,(f r.1).getD 0):=by rw [hts,List.take_of_length_le (by omega)]
       have e2:m=rs.length:=by rw [hm,e,List.length_map]
       subst e2;rw [e] at *;exact .inr (.inr ⟨C,λs=>(f s).getD 0,rs,_,_,rfl,hrs,hrl,⟨(SolL.congr hds.2).1 (GN λq h=>hq q (by omega)),λM hM s=>hl.1 M ((SolL.congr hds.2).2 hM) s⟩,(I.pick [2] (by decide))⟩)
theorem T.cf80:CF Tryz.prog 80:=λ_ _=>by kernel_rfl
theorem T.cf81:CF Tryz.prog 81:=λ_ _=>by kernel_rfl
theorem T.cf44:CF Tryz.prog 44:=λ_ _=>by kernel_rfl
theorem LC (g:Px) (w0:World) (hx:PxM w0.heap g/\PgB g.p) :
  Calls Tryz.prog 81 #[.agg g.cells.toArray] w0 λe w'=>∃ (v:Value) (c:Nat),e= .returned (.tuple #[v,.int .i64 (c:Nat)])/\NQ g.p c/\Ext w0 w':=by
 refine (Ik g w0 hx).mono λe w' h=>?_
 rcases h with ⟨h,rfl,X⟩ | ⟨h,h2,rfl,X⟩ | ⟨h,L,rs,a,c,rfl,_,_,h2,K⟩
 .exact ⟨_,_,rfl,.inl ⟨h,rfl⟩,X⟩
 .exact ⟨_,15,rfl,.inr (.inl ⟨h,h2,rfl⟩),X⟩
 .exact ⟨_,0,rfl,.inr (.inr ⟨h,⟨L,h2.1⟩,rfl⟩),K.x⟩
theorem Cm {p:Pg} {c:Nat} (h0:aA p=0) (h1:jx p=0) (h:NQ p c):GoodC p c:=by
 rcases h with ⟨h,_⟩ | ⟨_,h2,h3⟩ | ⟨_,h2,h3⟩
 .exact absurd h0 h
 .exact .inr (.inr (.inl ⟨h0,h1,h2,h3⟩))
 .exact .inr (.inr (.inr ⟨h0,h1,h2,h3⟩))
theorem N9 (g:Px) (w0:World) (hx:PxM w0.heap g/\PgB g.p) :
  Calls Tryz.prog 40 #[.agg g.cells.toArray] w0 λe w'=>∃ c:Nat,e= .returned (.int .i64 (c:Nat))/\GoodC g.p c/\Ext w0 w':=by
 refine enter Tryz.func40 rfl 33 Tryz.ntmps40 rfl<|sj λ_ D=>st_e<|Ebx (v:=.agg g.cells.toArray) (Hp.start No w0) rfl λ_ _ C _=>qt asg<|nl<|D<|seqJ λ_ E G _=>sj λ_ H=>qR 1 (.d C 0 0 3 rfl .z) rfl rfl<|cl T.cf79 (BS g _ ⟨hx.1.ext C.x,hx.2⟩) rfl λ_ _ ⟨uk,ui,us,er,I⟩=>⟨_,er,?_⟩;have J:=C.ext I;refine qZ 3 rfl<|st_e<|Eal J T.zv152 λ_ _ K _=>st_s<|Est (v:=.agg #[.int .i64 uk,.int .i64 ui,.string us]) K 0 T.sz152 rfl rfl rfl rfl rfl rfl λ_ A=>qt asg<|nl<|H<|sZ rfl<|cnd (p:=(aA g.p)≠0) rfl (λL=>?_) (λL=>?_)
 .exact sZ rfl<|ret<|G<|leave1 (v:=vN (aA g.p)) rfl rfl<|⟨_,rfl,.inl ⟨by assumption,rfl⟩,A.x⟩
 .refine skip<|E<|seqJ λ_ M N _=>sj λ_ O=>qR 1 (.d A 1 0 3 rfl .z) rfl rfl<|cl T.cf80 (LF g _ ⟨hx.1.ext A.x,hx.2⟩) rfl λ_ _ ⟨vi,vs,er,R⟩=>⟨_,er,?_⟩;have B:=A.ext R;refine qZ 7 rfl<|nl<|O<|sZ rfl<|cnd (p:=(jx g.p)≠0) rfl (λU=>?_) (λU=>?_)
  .exact sZ rfl<|ret<|N<|leave1 (v:=vN (jx g.p)) rfl rfl<|⟨_,rfl,.inr (.inl ⟨Decidable.of_not_not ‹_›,by assumption,rfl⟩),B.x⟩
  .refine skip<|M<|sj λ_ V=>qR 1 (.d B 1 0 3 rfl .z) rfl rfl<|cl T.cf81 (LC g _ ⟨hx.1.ext B.x,hx.2⟩) rfl λ_ _ ⟨vl,lc,er,hlc,W⟩=>⟨_,er,?_⟩;have X:=B.ext W;exact qZ 5 rfl<|nl<|V<|sZ rfl<|ret<|leave1 (v:=vN lc) rfl rfl<|⟨_,rfl,Cm (Decidable.of_not_not ‹_›) (Decidable.of_not_not ‹_›) hlc,X.x⟩
theorem Py (r:Ro) (z:Rw) (b:Nat) (w0:World) (hb:Blk w0.heap b (eL.enc z) 37) :
  Calls Tryz.prog 44 #[.agg (rQ r).toArray,.pointer (some ⟨b,0,none⟩)] w0 λe w'=>e= .returned (vB (r.1=z.1.pred))/\Ext w0 w':=by
 exact enter Tryz.func44 rfl 10 Tryz.ntmps44 rfl<|sj λQ1 k2=>st_e<|Ebx (v:=.agg (rQ r).toArray) (Hp.start No w0) rfl λb3 w4 H5 x6=>qt asg<|nl<|k2<|sL (.b H5 0 0 rfl (.l (((Blk.cells (hb.ext H5.x) 0 (eL.enc z) (aN rfl))).fld 1 rfl) .z)) rfl rfl<|ret<|leave1 (v:=vB (r.1.toList=z.1.pred.toList)) rfl rfl<|⟨congrArg Ending.returned (dq (q:=r.1=z.1.pred) ⟨λh=>aC h,λh=>by rw [h]⟩),H5.x⟩
theorem Mj (xs:List Ro) (a:Option Addr) (c:Nat) (z:Rw) (b:Nat) (w0:World) (hs:Srm eRo w0.heap a xs.length c xs) (hb:Blk w0.heap b (eL.enc z) 37) :
  Calls Tryz.prog 43 #[.slice a xs.length c,.func (.func 44) #[] #[.pointer (some ⟨b,0,none⟩)]] w0 λe w'=>(e= .returned (.int .i64 (-1))/\(∀ r ∈ xs,r.1≠z.1.pred)/\Ext w0 w')\/∃ j:Nat,j<xs.length/\e= .returned (.int .i64 (j:Int))/\(el xs j).1=z.1.pred/\Ext w0 w':=by
 have hcap:=hs.cap;refine enter Tryz.func43 rfl 19 Tryz.ntmps43 rfl<|sZ rfl<|seqJ λ_ D E _=>sZ rfl<|blockJ λ_ _ G _ H=>ay (α:=Nat) (λx=>[(0,.slice a xs.length c),(1,.func (.func 44) #[] #[.pointer (some ⟨b,0,none⟩)]),(7,vN xs.length),(8,vN x)]) (λx I=>Hp No w0 I []/\x<=xs.length/\∀ q,q<x->(el xs q).1≠z.1.pred) (λx=>xs.length-x) (0) ⟨rfl,rfl,rfl,rfl,trivial⟩ ?_ ?_
 .refine ⟨((Hp.start No w0).pick [] (by decide)),?_⟩;(try dsimp only);exact ⟨Nat.zero_le _,λq h=>absurd h (Nat.not_lt_zero _)⟩
 .rintro Z i aa ⟨A,⟨hi,hq⟩⟩;(try dsimp only at hi hq);intro ba J K L;refine sZ rfl<|seqJ λ_ M _ N=>cnd (p:=i<xs.length) rfl (λO=>?_) (λO=>?_)
  .refine skip<|M<|seqJ λ_ R U _=>blockJ λ_ V W _ _=>sZ rfl<|sj λ_ X=>qR 5 (.e (hs.e A) (i:=i) (by omega) .z) rfl rfl<|clv (cap:=[.pointer (some ⟨b,0,none⟩)]) (vs:=[.agg (rQ (el xs i)).toArray]) T.cf44 rfl (Py (el xs i) z b _ (hb.ext A.x)) rfl λ_ _ ⟨er,Y⟩=>⟨_,er,?_⟩;have B:=A.ext Y;refine nl<|X<|cnd (p:=(el xs i).1=z.1.pred) rfl (λC=>?_) (λC=>?_)
   .exact sZ rfl<|ret<|W<|U<|K _ _<|G<|E<|leave1 (v:=vN i) rfl rfl<|.inr ⟨i,by assumption,rfl,by assumption,B.x⟩
   .refine skip<|V<|R<|rL (.a1 (by omega) .z) rfl rfl<|J _ ((i+1)) _ ⟨rfl,rfl,rfl,rfl,trivial⟩ ⟨(B.pick [] (by decide)),?_⟩ ?_
    ·(try dsimp only);exact ⟨by omega,λq h=>(Nat.lt_or_ge q i).elim (hq q) λ_=>(by rw [show q=i by omega];exact C)⟩
    ·(try dsimp only);omega
  .exact exit<|N<|L _ _ _<|H<|D<|sZ rfl<|ret<|leave1 (v:=.int .i64 (-1)) rfl rfl<|.inl ⟨rfl,kH λj hj=>hq j (by omega),A.x⟩
theorem T.cf40:CF Tryz.prog 40:=λ_ _=>by kernel_rfl
theorem T.cf43:CF Tryz.prog 43:=λ_ _=>by kernel_rfl
theorem Iy {p:Pg} (h:GoodC p 0):aA p=0/\jx p=0/\Solv (kQ p):=by
 rcases h with ⟨h1,h2⟩ | ⟨h1,h2,h3⟩ | ⟨_,_,_,h⟩ | ⟨h1,h2,h3,_⟩
 .exact absurd h2.symm h1
 .exact absurd h3.symm h2
 .cases h
 .exact ⟨h1,h2,h3⟩
theorem F8 (g:Px) (w0:World) (hx:PxM w0.heap g/\PgB g.p) (h0:aA g.p=0) :
  Calls Tryz.prog 42 #[.agg g.cells.toArray] w0 λe w'=>∃ rs a c,e= .returned (.tuple #[.slice a rs.length c,.int .i64 0])/\RolesL g.p rs/\rs.length<=1200000000000/\Hp No w0 w' [cQ 100 eRo a rs.length c rs]:=by
 refine (C8 g w0 hx).mono λe w' h=>?_
 rcases h with ⟨h,_⟩ | ⟨_,h⟩
 .exact absurd h0 h
 .exact h
theorem nu {p:Pg} {rows:List Rw} {i c:Nat} (h:∀ j,j<i->j6 p (el rows j).1=none) (hi:i<rows.length) (hc:j6 p (el rows i).1=some c):nL p (rows.map (·.1))=some ((el rows i).1.pred,c):=by
 have:=Ho (p:=p) (q:=rows.map (·.1)) (i:=i) (c:=c) (λj hj=>by rw [fI (by omega)];exact h j hj) (by rw [List.length_map];exact hi) (by rw [fI hi];exact hc);rw [fI hi] at this;exact this
theorem oq {p:Pg} {rows:List Rw} (h:∀ j,j<rows.length->j6 p (el rows j).1=none):nL p (rows.map (·.1))=none:=
 Av λj hj=>by rw [List.length_map] at hj;rw [fI hj];exact h j hj
theorem fe {o:Option ByteArray} (h:¬ o.isNone=true):o=some (o.getD ByteArray.empty):=by
 cases o with
 | none=>exact absurd rfl h
 | some x=>rfl
theorem L5 (g:Px) (rows:List Rw) (a:Option Addr) (c:Nat) (w0:World) (hx:PxM w0.heap g/\PgB g.p) (hs:Lits w0.heap a rows.length c rows) (hqb:RuB (oH (rows.map (·.1)))) :
  Calls Tryz.prog 16 #[.agg g.cells.toArray,.slice a rows.length c] w0 λe w'=>∃ (s:ByteArray) (k:Nat),e= .returned (.tuple #[.string s,.int .i64 (k:Nat)])/\ChkQ g.p (rows.map (·.1)) s k/\Ext w0 w':=by
 have hcap:=hs.1.cap;have hrm:=RuB.room (z:=(⟨MJ,[],rows,none,0,a,c⟩:Rx)) hqb;have hlm:(rows.map (·.1)).length=rows.length:=List.length_map _;refine enter Tryz.func16 rfl 70 Tryz.ntmps16 rfl<|sj λ_ ea=>st_e<|Ebx (v:=.agg g.cells.toArray) (Hp.start No w0) rfl λ_ _ C _=>qZ 2 rfl<|nl<|ea<|seqJ λ_ fa ga _=>sj λ_ ha=>qR 1 (.d C 0 0 3 rfl .z) rfl rfl<|cl T.cf40 (N9 g _ ⟨hx.1.ext C.x,hx.2⟩) rfl λ_ _ ⟨gc,er,hgc,ia⟩=>⟨_,er,?_⟩;have D:=C.ext ia;refine qZ 1 rfl<|nl<|ha<|cnd (p:=gc≠0) rfl (λja=>?_) (λja=>?_)
 .refine sZ rfl<|ret<|ga<|leave2 (v:=.string (ByteArray.mk #[])) (v':=vN 4) rfl rfl rfl ?_;exact ⟨_,4,rfl,.inl ⟨λh=>absurd (hgc.uniq h) ‹_›,rfl,rfl⟩,D.x⟩
 .refine skip<|fa<|seqJ λ_ ka K _=>sj λ_ L=>qZ 3 rfl<|st_if (p:=rows.length=0) (ai rfl) (λla=>?_) (λla=>?_)
  .refine qZ 5 rfl<|nl<|L<|cndT rfl<|sZ rfl<|ret<|K<|leave2 (v:=.string (ByteArray.mk #[])) (v':=vN 2) rfl rfl rfl ?_;exact ⟨_,2,rfl,.inr (.inl ⟨by have:=hgc;rwa [show gc=0 from Decidable.of_not_not ‹_›] at this,λh=>by first | exact absurd (List.eq_nil_of_length_eq_zero (by omega)) h.1 | exact absurd h.2 ‹_›,rfl,rfl⟩),D.x⟩
  .refine qZ 1 rfl<|st_gq 3 19 rfl rfl (by decide)<|cl T.cf37 (vW a rows.length c _) rfl λ_ _ ⟨er,ma⟩=>⟨_,er,?_⟩;have M:=D.ext ma;refine st_gq 3 19 rfl rfl (by decide)<|cl T.cf41 (yg (⟨MJ,[],rows,none,0,a,c⟩:Rx) _ ⟨⟨by simp [flat],none,0,rfl,Nat.le_refl _,by decide,.inl rfl⟩,hs.ext M.x⟩ hrm.1 hrm.2.1 hrm.2.2) rfl λ_ _ ⟨er,na⟩=>⟨_,er,?_⟩;have B:=M.ext na;refine st_gq 3 19 rfl rfl (by decide)<|qt (aV rfl)<|qt (LV rfl)<|nl<|L<|cnd (p:=¬ (pT (oH (rows.map (·.1))))) rfl (λoa=>?_) (λoa=>?_)
   .refine sZ rfl<|ret<|K<|leave2 (v:=.string (ByteArray.mk #[])) (v':=vN 2) rfl rfl rfl ?_;exact ⟨_,2,rfl,.inr (.inl ⟨by have:=hgc;rwa [show gc=0 from Decidable.of_not_not ‹_›] at this,λh=>by first | exact absurd (List.eq_nil_of_length_eq_zero (by omega)) h.1 | exact absurd h.2 ‹_›,rfl,rfl⟩),B.x⟩
   .refine skip<|ka<|sj λ_ pa=>qR 1 (.d B 0 0 3 rfl .z) rfl rfl<|?_;have hgd:GoodC g.p 0:=by have:=hgc;rwa [show gc=0 from Decidable.of_not_not ‹_›] at this
    have hg:=Iy hgd;have hqf:QF (rows.map (·.1)):=⟨λh=>absurd (congrArg List.length h) (by rw [hlm];assumption),Decidable.of_not_not ‹_›⟩;have hro:=F8 g _ ⟨hx.1.ext B.x,hx.2⟩ hg.1;refine cl T.cf42 (hro) rfl λ_ _ ⟨rs,ra,rc,er,hrs,hrl,qa⟩=>⟨_,er,?_⟩;have sa:=B.app' qa;refine qZ 5 rfl<|nl<|pa<|seqJ λ_ ta N _=>sZ rfl<|blockJ λ_ _ O _ ua=>ay (α:=Nat) (λx=>[(1,.slice a rows.length c),(6,.slice ra rs.length rc),(30,.slice a rows.length c),(31,vN rows.length),(32,vN x)]) (λx va=>Hp No w0 va [cQ 100 eRo ra rs.length rc rs]/\x<=rows.length/\∀ q,q<x->j6 g.p (el rows q).1=none) (λx=>rows.length-x) (0) ⟨rfl,rfl,rfl,rfl,rfl,trivial⟩ ?_ ?_
    .refine ⟨(sa.pick [0] (by decide)),?_⟩;(try dsimp only);exact ⟨Nat.zero_le _,λq h=>absurd h (Nat.not_lt_zero _)⟩
    .rintro Ra i Sa ⟨E,⟨hi,hq⟩⟩;(try dsimp only at hi hq);intro Ta R U wa;refine sZ rfl<|seqJ λ_ xa _ ya=>cnd (p:=i<rows.length) rfl (λza=>?_) (λza=>?_)
     .refine skip<|xa<|seqJ λ_ V W _=>blockJ λ_ Aa Y _ Ba=>sj λ_ Ca=>qR 2 (.e (hs.1.e E) (i:=i) (by omega) .z) rfl rfl<|st_e<|Eal E T.zv37 λZ _ Da _=>st_s<|Est (v:=.agg (eL.enc (el rows i)).toArray) Da 0 T.sz37 rfl rfl rfl rfl rfl rfl λ_ A=>nl<|Ca<|seqJ λ_ Ea _ Fa=>sL (.b A 0 0 rfl (.i .z)) rfl rfl<|cnd (p:=((el rows i).1.kind)=3) rfl (λG=>?_) (λG=>?_)
      .refine exit<|Fa<|Ba<|V<|rL (.a1 (by omega) .z) rfl rfl<|R _ ((i+1)) _ ⟨rfl,rfl,rfl,rfl,rfl,trivial⟩ ⟨(A.pick [1] (by decide)),?_⟩ ?_
       ·(try dsimp only);exact ⟨by omega,λq h=>(Nat.lt_or_ge q i).elim (hq q) λGa=>(by rw [show q=i by omega];first | exact wJ G | (rw [qJ hrs ‹_› hj hjp,if_neg G]))⟩
       ·(try dsimp only);omega
      .refine skip<|Ea<|sj λ_ aa=>qt mv<|qt (v:=.func (.func 44) #[] #[.pointer (some ⟨Z,0,none⟩)]) (jw (λ_=>by kernel_rfl))<|cl T.cf43 (Mj rs ra rc (el rows i) Z _ (A.srQ 1 rfl) (A.at 0 rfl)) rfl λ_ _ hc84=>?_
       rcases hc84 with ⟨rfl,hno,X⟩ | ⟨j,hj,rfl,hjp,X⟩
       .refine ⟨_,rfl,?_⟩;have ba:=A.ext X;refine qt asg<|nl<|aa<|seqJ λ_ _ Ha _=>sL (.i .z) rfl rfl<|cndY (p:=(-1)<0) rfl (not_not_intro (by decide))<|sL (.b ba 0 1 rfl .z) rfl rfl<|ret<|Ha<|Y<|W<|U _ _<|O<|N<|leave2 (v:=.string ((el rows i).1.pred)) (v':=vN 400) rfl rfl rfl ?_;exact ⟨_,400,rfl,.inr (.inr (.inl ⟨hgd,hqf,nu hq ‹_› (BZ hrs ‹_› hno)⟩)),ba.x⟩
       .refine ⟨_,rfl,?_⟩;have H:=A.ext X;refine qt asg<|nl<|aa<|seqJ λ_ Ia _ _=>sZ rfl<|cndN (p:=j<0) rfl ((Nat.not_lt_zero _))<|skip<|Ia<|sD (.f (H.srQ 1 rfl) 1 (i:=j) (by omega) rfl (.b H 0 2 rfl (.i .z))) rfl rfl (by kernel_rfl) λ_ Ja=>?_;have I:=H.ext Ja;refine cnd (p:=((el rs j).2.1)≠(((el rows i).1.args.length:Nat):Int)) rfl (λJ=>?_) (λJ=>?_)
        .refine sL (.b I 0 1 rfl .z) rfl rfl<|ret<|Y<|W<|U _ _<|O<|N<|leave2 (v:=.string ((el rows i).1.pred)) (v':=vN 12) rfl rfl rfl ?_;exact ⟨_,12,rfl,.inr (.inr (.inl ⟨hgd,hqf,nu hq ‹_› ((by rw [qJ hrs ‹_› hj hjp,if_pos ‹_›]))⟩)),I.x⟩
        .refine skip<|Aa<|V<|rL (.a1 (by omega) .z) rfl rfl<|R _ ((i+1)) _ ⟨rfl,rfl,rfl,rfl,rfl,trivial⟩ ⟨(I.pick [1] (by decide)),?_⟩ ?_
         ·(try dsimp only);exact ⟨by omega,λq h=>(Nat.lt_or_ge q i).elim (hq q) λGa=>(by rw [show q=i by omega];first | exact wJ J | (rw [qJ hrs ‹_› hj hjp,if_neg J]))⟩
         ·(try dsimp only);omega
     .refine exit<|ya<|wa _ _ _<|ua<|ta<|seqJ λ_ Ka La _=>sj λ_ Ma=>qt mv<|cl T.cf37 (vW a rows.length c _) rfl λ_ _ ⟨er,Na⟩=>⟨_,er,?_⟩;have ca:=E.ext Na;refine cl T.cf45 (FP (⟨MJ,[],rows,none,0,a,c⟩:Rx) _ ⟨⟨⟨by simp [flat],none,0,rfl,Nat.le_refl _,by decide,.inl rfl⟩,hs.ext ca.x⟩,hqb⟩) rfl λ_ _ ⟨er,Oa⟩=>⟨_,er,?_⟩;have da:=ca.ext Oa;refine qZ 5 rfl<|nl<|Ma<|sj λ_ Pa=>qt mv<|qt (d9 rfl)<|nl<|Pa<|cnd (p:=¬ ((aQ (oH (rows.map (·.1)))).isNone=true)) rfl (λQa=>?_) (λQa=>?_)
      .refine sZ rfl<|ret<|La<|leave2 (v:=.string ((aQ (oH (rows.map (·.1)))).getD ByteArray.empty)) (v':=vN 14) rfl rfl rfl ?_;exact ⟨_,14,rfl,.inr (.inr (.inr (.inl ⟨hgd,hqf,oq λq h=>hq q (by omega),fe ‹_›,rfl⟩))),da.x⟩
      .refine skip<|Ka<|sZ rfl<|ret<|leave2 (v:=.string (ByteArray.mk #[])) (v':=vN 0) rfl rfl rfl ?_;exact ⟨_,0,rfl,.inr (.inr (.inr (.inr ⟨hgd,hqf,oq λq h=>hq q (by omega),Option.isNone_iff_eq_none.1 (Decidable.of_not_not ‹_›),rfl,rfl⟩))),da.x⟩
end Go.Proofs.YtljfgmedbjlkaaaGreat
