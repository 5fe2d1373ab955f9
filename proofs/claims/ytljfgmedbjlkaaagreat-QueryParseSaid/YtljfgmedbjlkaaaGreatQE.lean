/- strings.Join over a list that is read: its bytes. -/
import Derived.Test.YtljfgmedbjlkaaaGreatSJ
import Derived.Test.YtljfgmedbjlkaaaGreatV8
import Derived.Test.YtljfgmedbjlkaaaGreatQA
import Derived.Test.YtljfgmedbjlkaaaGreatV3
import Derived.Test.YtljfgmedbjlkaaaGreatProg
import Derived.Test.YtljfgmedbjlkaaaGreatQD
import Derived.Test.YtljfgmedbjlkaaaGreatQV
namespace Go.Proofs.YtljfgmedbjlkaaaGreat
open Go.RowKit Go.Eng Go.QP
end Go.Proofs.YtljfgmedbjlkaaaGreat
namespace Go.Proofs.YtljfgmedbjlkaaaGreat
open Go.RowKit Go.Eng Go.QP
theorem T.sl30:SL Tryz.prog 30 35 2 24 (.agg #[.bool false,.string ByteArray.empty]):=sl_mk Tryz.underlying30 (by kernel_rfl) rfl (by decide)
theorem T.ag35:AG Tryz.prog 35 2:=fun _=>⟨by kernel_rfl,by kernel_rfl⟩
theorem T.zv35:ZV Tryz.prog 35 (.agg #[.bool false,.string ByteArray.empty]):=fun _=>by kernel_rfl
theorem T.sz35:SZ Tryz.prog 35 2:=fun _=>by kernel_rfl
abbrev eT:En (Bool × ByteArray):=⟨fun x=>[.bool (decide (x.1=true)),.string x.2],2,fun _=>rfl,by decide,fun _=>rfl⟩
end Go.Proofs.YtljfgmedbjlkaaaGreat
namespace Go.Proofs.YtljfgmedbjlkaaaGreat
open Go.RowKit Go.Eng Go.QP
theorem half193 (c:Nat) (w0:World) :
  Calls Tryz.prog 193 #[.int .u8 (c:Int)] w0 fun e w'=>e= .returned (.int .i64 (hx c))∧w0=w':=by
 refine enter Tryz.func193 rfl 24 Tryz.ntmps193 rfl<|?_
 refine sr fun Q1 k2=>qt asg<|nl<|k2 _ _<|seqK fun Q3 kn4 kr5 ke6=>blockK fun Q7 kn8 kr9 kx10 kb11=>?_
 refine sr fun Q12 k13=>qt mv<|qt (x_geqN (b:=48) rfl rfl)<|st_if (p:=48≤c) (x_move rfl) (fun h14=>?_) (fun h14=>?_)
 ·refine st_gq 2 6 rfl rfl (by decide)<|qt mv<|st_gq 2 6 rfl rfl (by decide)<|qt (x_leqN (b:=57) rfl rfl)<|qt (pkT rfl)<|qt asg<|nl<|k13 _ _<|cnd (p:=c≤57) rfl (fun h15=>?_) (fun h15=>?_)
  ·exact sr fun Q16 k17=>qt mv<|qt (x_subK rfl rfl (by omega) (by omega))<|qt (x_conv Tryz.underlying3 Tryz.underlying5 rfl (.inr ⟨by simp,by omega⟩))<|qt asg<|nl<|k17 _ _<|ret<|kr9 _ _<|kr5 _ _<|leave1 (P:=Tryz.prog) (fn:=Tryz.f193) (t:=2) (v:=.int .i64 (((c-48):Nat):Int)) rfl rfl<|⟨congrArg (fun z=>Ending.returned (.int .i64 z)) (by unfold hx;first | (rw [if_pos (by omega)];omega) | (rw [if_neg (by omega),if_pos (by omega)];omega) | (rw [if_neg (by omega),if_neg (by omega)])),rfl⟩
  ·refine sr fun Q18 k19=>qt mv<|qt (x_geqN (b:=97) rfl rfl)<|st_if (p:=97≤c) (x_move rfl) (fun h20=>?_) (fun h20=>?_)
   ·refine st_gq 2 16 rfl rfl (by decide)<|qt mv<|st_gq 2 16 rfl rfl (by decide)<|qt (x_leqN (b:=102) rfl rfl)<|qt (pkT rfl)<|qt asg<|nl<|k19 _ _<|cnd (p:=c≤102) rfl (fun h21=>?_) (fun h21=>?_)
    ·exact sr fun Q22 k23=>qt mv<|qt (x_subK rfl rfl (by omega) (by omega))<|qt (x_conv Tryz.underlying3 Tryz.underlying5 rfl (.inr ⟨by simp,by omega⟩))<|qt (addN (b:=10) rfl rfl)<|qt asg<|nl<|k23 _ _<|ret<|kr9 _ _<|kr5 _ _<|leave1 (P:=Tryz.prog) (fn:=Tryz.f193) (t:=2) (v:=.int .i64 ((((c-97)+10):Nat):Int)) rfl rfl<|⟨congrArg (fun z=>Ending.returned (.int .i64 z)) (by unfold hx;first | (rw [if_pos (by omega)];omega) | (rw [if_neg (by omega),if_pos (by omega)];omega) | (rw [if_neg (by omega),if_neg (by omega)])),rfl⟩
    ·refine skip<|kn8 _ _<|kn4 _ _<|?_
     exact sr fun Q24 k25=>qt asg<|nl<|k25 _ _<|ret<|leave1 (P:=Tryz.prog) (fn:=Tryz.f193) (t:=2) (v:=.int .i64 (-1)) rfl rfl<|⟨congrArg (fun z=>Ending.returned (.int .i64 z)) (by unfold hx;first | (rw [if_pos (by omega)];omega) | (rw [if_neg (by omega),if_pos (by omega)];omega) | (rw [if_neg (by omega),if_neg (by omega)])),rfl⟩
   ·refine st_gn 2 16 rfl rfl (by decide) rfl<|st_gn 2 16 rfl rfl (by decide) rfl<|qt (pkF rfl)<|qt asg<|nl<|k19 _ _<|cndF rfl<|skip<|kn8 _ _<|kn4 _ _<|?_
    exact sr fun Q26 k27=>qt asg<|nl<|k27 _ _<|ret<|leave1 (P:=Tryz.prog) (fn:=Tryz.f193) (t:=2) (v:=.int .i64 (-1)) rfl rfl<|⟨congrArg (fun z=>Ending.returned (.int .i64 z)) (by unfold hx;first | (rw [if_pos (by omega)];omega) | (rw [if_neg (by omega),if_pos (by omega)];omega) | (rw [if_neg (by omega),if_neg (by omega)])),rfl⟩
 ·refine st_gn 2 6 rfl rfl (by decide) rfl<|st_gn 2 6 rfl rfl (by decide) rfl<|qt (pkF rfl)<|qt asg<|nl<|k13 _ _<|cndF rfl<|?_
  refine sr fun Q28 k29=>qt mv<|qt (x_geqN (b:=97) rfl rfl)<|st_if (p:=97≤c) (x_move rfl) (fun h30=>?_) (fun h30=>?_)
  ·refine st_gq 2 16 rfl rfl (by decide)<|qt mv<|st_gq 2 16 rfl rfl (by decide)<|qt (x_leqN (b:=102) rfl rfl)<|qt (pkT rfl)<|qt asg<|nl<|k29 _ _<|cnd (p:=c≤102) rfl (fun h31=>?_) (fun h31=>?_)
   ·exact sr fun Q32 k33=>qt mv<|qt (x_subK rfl rfl (by omega) (by omega))<|qt (x_conv Tryz.underlying3 Tryz.underlying5 rfl (.inr ⟨by simp,by omega⟩))<|qt (addN (b:=10) rfl rfl)<|qt asg<|nl<|k33 _ _<|ret<|kr9 _ _<|kr5 _ _<|leave1 (P:=Tryz.prog) (fn:=Tryz.f193) (t:=2) (v:=.int .i64 ((((c-97)+10):Nat):Int)) rfl rfl<|⟨congrArg (fun z=>Ending.returned (.int .i64 z)) (by unfold hx;first | (rw [if_pos (by omega)];omega) | (rw [if_neg (by omega),if_pos (by omega)];omega) | (rw [if_neg (by omega),if_neg (by omega)])),rfl⟩
   ·refine skip<|kn8 _ _<|kn4 _ _<|?_
    exact sr fun Q34 k35=>qt asg<|nl<|k35 _ _<|ret<|leave1 (P:=Tryz.prog) (fn:=Tryz.f193) (t:=2) (v:=.int .i64 (-1)) rfl rfl<|⟨congrArg (fun z=>Ending.returned (.int .i64 z)) (by unfold hx;first | (rw [if_pos (by omega)];omega) | (rw [if_neg (by omega),if_pos (by omega)];omega) | (rw [if_neg (by omega),if_neg (by omega)])),rfl⟩
  ·refine st_gn 2 16 rfl rfl (by decide) rfl<|st_gn 2 16 rfl rfl (by decide) rfl<|qt (pkF rfl)<|qt asg<|nl<|k29 _ _<|cndF rfl<|skip<|kn8 _ _<|kn4 _ _<|?_
   exact sr fun Q36 k37=>qt asg<|nl<|k37 _ _<|ret<|leave1 (P:=Tryz.prog) (fn:=Tryz.f193) (t:=2) (v:=.int .i64 (-1)) rfl rfl<|⟨congrArg (fun z=>Ending.returned (.int .i64 z)) (by unfold hx;first | (rw [if_pos (by omega)];omega) | (rw [if_neg (by omega),if_pos (by omega)];omega) | (rw [if_neg (by omega),if_neg (by omega)])),rfl⟩
theorem blank65 (t:ByteArray) (i0:Nat) (w0:World) (hs:t.size≤68719476736) (hi0:i0≤t.size) :
  Calls Tryz.prog 65 #[.string t,.int .i64 ((i0:Nat):Int)] w0 fun e w'=>e= .returned (.int .i64 ((blankP ((bl t).drop i0) false i0:Nat):Int))∧w0=w':=by
 refine enter Tryz.func65 rfl 40 Tryz.ntmps65 rfl<|?_
 refine sr fun Q1 k2=>qt asg<|nl<|k2 _ _<|?_
 refine sr fun Q3 k4=>qt asg<|nl<|k4 _ _<|seqK fun Q5 kn6 kr7 ke8=>blockK fun Q9 kn10 kr11 kx12 kb13=>?_
 refine loopK (α:=Nat × Bool) (fun x=>[(0,.string t),(1,.int .i64 ((x.1:Nat):Int)),(5,.bool x.2)]) (fun x w14=>w0=w14∧x.1≤t.size∧blankP ((bl t).drop x.1) x.2 x.1=blankP ((bl t).drop i0) false i0) (fun x=>t.size-x.1) (i0,false) ⟨rfl,rfl,rfl,trivial⟩ ?_ ?_
 ·refine ⟨rfl,?_⟩
  try dsimp only
  exact ⟨by omega,rfl⟩
 ·rintro τ15 ⟨i,rm⟩ w16 ⟨rfl,⟨hi,hq⟩⟩
  try dsimp only at hi hq
  intro Q17 kn18 kr19 ke20
  refine seqK fun Q21 kn22 kr23 ke24=>?_
  refine sr fun Q25 k26=>qt mv<|qt mv<|qt (x_lenS rfl Tryz.underlying9 rfl)<|qt (x_lssN rfl rfl)<|nl<|k26 _ _<|cnd (p:=i<t.size) rfl (fun h27=>?_) (fun h27=>?_)
  ·refine skip<|kn22 _ _<|seqK fun Q28 kn29 kr30 ke31=>blockK fun Q32 kn33 kr34 kx35 kb36=>?_
   refine sr fun Q37 k38=>qt mv<|qt mv<|qt (x_indexS Tryz.underlying9 rfl rfl (by omega))<|qt asg<|nl<|k38 _ _<|blockK fun Q39 kn40 kr41 kx42 kb43=>?_
   refine sr fun Q44 k45=>qt mv<|qt asg<|nl<|k45 _ _<|cndB (b:=rm) rfl (fun h_=>?_) (fun h_=>?_)
   ·refine region<|qt mv<|qt (x_neqN (b:=10) rfl rfl)<|qt asg<|nl<|kn40 _ _<|kn33 _ _<|kn29 _ _<|region<|qt mv<|qt (addN (b:=1) rfl rfl)<|qt asg<|nl<|kn18 _ ((i+1),decide ((ch t i)≠10)) _ ⟨rfl,rfl,rfl,trivial⟩ ⟨rfl,?_⟩ ?_
    ·try dsimp only
     exact ⟨by omega,bk_t hq (by omega) (by assumption)⟩
    ·(try dsimp only);omega
   ·refine sr fun Q47 k48=>qt mv<|qt (x_eqlN (b:=37) rfl rfl)<|qt asg<|nl<|k48 _ _<|cnd (p:=(ch t i)=37) rfl (fun h49=>?_) (fun h49=>?_)
    ·refine region<|qt asg<|nl<|kn40 _ _<|kn33 _ _<|kn29 _ _<|region<|qt mv<|qt (addN (b:=1) rfl rfl)<|qt asg<|nl<|kn18 _ ((i+1),true) _ ⟨rfl,rfl,rfl,trivial⟩ ⟨rfl,?_⟩ ?_
     ·try dsimp only
      exact ⟨by omega,bk_r hq (by omega) (by simpa using h_) (by assumption)⟩
     ·(try dsimp only);omega
    ·refine sr fun Q50 k51=>qt mv<|qt (x_neqN (b:=32) rfl rfl)<|st_if (p:=(ch t i)≠32) (x_move rfl) (fun h52=>?_) (fun h52=>?_)
     ·refine st_gq 2 26 rfl rfl (by decide)<|qt mv<|st_gq 2 26 rfl rfl (by decide)<|qt (x_neqN (b:=9) rfl rfl)<|qt (pkT rfl)<|st_if (p:=(ch t i)≠9) (x_move rfl) (fun h53=>?_) (fun h53=>?_)
      ·refine st_gq 6 30 rfl rfl (by decide)<|qt mv<|st_gq 6 30 rfl rfl (by decide)<|qt (x_neqN (b:=10) rfl rfl)<|qt (pkT rfl)<|st_if (p:=(ch t i)≠10) (x_move rfl) (fun h54=>?_) (fun h54=>?_)
       ·refine st_gq 10 34 rfl rfl (by decide)<|qt mv<|st_gq 10 34 rfl rfl (by decide)<|qt (x_neqN (b:=13) rfl rfl)<|qt (pkT rfl)<|qt asg<|nl<|k51 _ _<|cnd (p:=(ch t i)≠13) rfl (fun h55=>?_) (fun h55=>?_)
        ·exact sr fun Q56 k57=>qt mv<|qt asg<|nl<|k57 _ _<|ret<|kr41 _ _<|kr34 _ _<|kr30 _ _<|kr19 _ _<|kr11 _ _<|kr7 _ _<|leave1 (P:=Tryz.prog) (fn:=Tryz.f65) (t:=4) (v:=.int .i64 ((i:Nat):Int)) rfl rfl<|⟨congrArg (fun z:Nat=>Ending.returned (.int .i64 (z:Int))) (by first | exact bk_e hq (by omega) | exact bk_o hq (by omega) (by simpa using h_) (by assumption) (by omega)),rfl⟩
        ·refine skip<|kn40 _ _<|kn33 _ _<|kn29 _ _<|region<|qt mv<|qt (addN (b:=1) rfl rfl)<|qt asg<|nl<|kn18 _ ((i+1),rm) _ ⟨rfl,rfl,rfl,trivial⟩ ⟨rfl,?_⟩ ?_
         ·try dsimp only
          exact ⟨by omega,bk_b hq (by omega) (by simpa using h_) (by assumption) (by omega)⟩
         ·(try dsimp only);omega
       ·refine st_gn 10 34 rfl rfl (by decide) rfl<|st_gn 10 34 rfl rfl (by decide) rfl<|qt (pkF rfl)<|qt asg<|nl<|k51 _ _<|cndF rfl<|skip<|kn40 _ _<|kn33 _ _<|kn29 _ _<|region<|qt mv<|qt (addN (b:=1) rfl rfl)<|qt asg<|nl<|kn18 _ ((i+1),rm) _ ⟨rfl,rfl,rfl,trivial⟩ ⟨rfl,?_⟩ ?_
        ·try dsimp only
         exact ⟨by omega,bk_b hq (by omega) (by simpa using h_) (by assumption) (by omega)⟩
        ·(try dsimp only);omega
      ·refine st_gn 6 30 rfl rfl (by decide) rfl<|st_gn 6 30 rfl rfl (by decide) rfl<|qt (pkF rfl)<|qt mv<|st_gn 10 34 rfl rfl (by decide) rfl<|st_gn 10 34 rfl rfl (by decide) rfl<|qt (pkF rfl)<|qt asg<|nl<|k51 _ _<|cndF rfl<|skip<|kn40 _ _<|kn33 _ _<|kn29 _ _<|region<|qt mv<|qt (addN (b:=1) rfl rfl)<|qt asg<|nl<|kn18 _ ((i+1),rm) _ ⟨rfl,rfl,rfl,trivial⟩ ⟨rfl,?_⟩ ?_
       ·try dsimp only
        exact ⟨by omega,bk_b hq (by omega) (by simpa using h_) (by assumption) (by omega)⟩
       ·(try dsimp only);omega
     ·refine st_gn 2 26 rfl rfl (by decide) rfl<|st_gn 2 26 rfl rfl (by decide) rfl<|qt (pkF rfl)<|qt mv<|st_gn 6 30 rfl rfl (by decide) rfl<|st_gn 6 30 rfl rfl (by decide) rfl<|qt (pkF rfl)<|qt mv<|st_gn 10 34 rfl rfl (by decide) rfl<|st_gn 10 34 rfl rfl (by decide) rfl<|qt (pkF rfl)<|qt asg<|nl<|k51 _ _<|cndF rfl<|skip<|kn40 _ _<|kn33 _ _<|kn29 _ _<|region<|qt mv<|qt (addN (b:=1) rfl rfl)<|qt asg<|nl<|kn18 _ ((i+1),rm) _ ⟨rfl,rfl,rfl,trivial⟩ ⟨rfl,?_⟩ ?_
      ·try dsimp only
       exact ⟨by omega,bk_b hq (by omega) (by simpa using h_) (by assumption) (by omega)⟩
      ·(try dsimp only);omega
  ·refine exit<|ke24 _ _ _<|ke20 _ _ _<|kb13 _ _<|kn6 _ _<|?_
   exact sr fun Q58 k59=>qt mv<|qt asg<|nl<|k59 _ _<|ret<|leave1 (P:=Tryz.prog) (fn:=Tryz.f65) (t:=4) (v:=.int .i64 ((i:Nat):Int)) rfl rfl<|⟨congrArg (fun z:Nat=>Ending.returned (.int .i64 (z:Int))) (by first | exact bk_e hq (by omega) | exact bk_o hq (by omega) (by simpa using h_) (by assumption) (by omega)),rfl⟩
end Go.Proofs.YtljfgmedbjlkaaaGreat
namespace Go.Proofs.YtljfgmedbjlkaaaGreat
open Go.RowKit Go.Eng Go.QP
theorem T.cf193:CF Tryz.prog 193:=fun _ _=>by kernel_rfl
def QSc (t:ByteArray) (R:List Nat × Nat × Bool) (lb i m:Nat) (b:List Nat):Prop:=
 i≤t.size∧b.length=m∧match lb with
  | 0=>m≤1024∧quotedP ((bl t).drop i) b i=R
  | 1=>m<1024∧slashP ((bl t).drop i) b i=R
  | _=>m<1024∧firstP ((bl t).drop i) b i=R
theorem quoted120 (t:ByteArray) (i0:Nat) (w0:World) (hs:t.size≤68719476736) (hi0:i0≤t.size) :
  Calls Tryz.prog 120 #[.string t,.int .i64 ((i0:Nat):Int)] w0 fun e w'=>e= .returned (.tuple #[.string (sN (quotedP ((bl t).drop i0) [] i0).1),.int .i64 (((quotedP ((bl t).drop i0) [] i0).2.1:Nat):Int),.bool (quotedP ((bl t).drop i0) [] i0).2.2])∧Ext w0 w':=by
 refine enter Tryz.func120 rfl 130 Tryz.ntmps120 rfl<|?_
 refine sr fun Q1 k2=>qt asg<|qt asg<|qt asg<|nl<|k2 _ _<|?_
 refine scopeT (n:=130) (ds:=[]) (α:=Nat × (Option Addr) × Nat × Nat × (List Nat)) (fun x=>[(0,.string t),(1,.int .i64 ((x.1:Nat):Int)),(7,.slice x.2.1 x.2.2.1 x.2.2.2.1)]) (fun lb x w3=>Hp No w0 w3 [cQ 5 eY x.2.1 x.2.2.1 x.2.2.2.1 x.2.2.2.2]∧QSc t (quotedP ((bl t).drop i0) [] i0) lb x.1 x.2.2.1 x.2.2.2.2) (fun x=>t.size-x.1) rfl rfl rfl ?_ ?_ ?_ ?_
 ·intro Z4 Q5 kn6 kr7 ke8
  refine sr fun Q9 k10=>?_
  refine st_e<|Ebs (cs:=[]) (e:=5) (Hp.start No w0) (fun _=>by kernel_rfl) fun b11 w12 H13 x14=>qt asg<|nl<|k10 _ _<|?_
  refine sr fun Q15 k16=>qt asg<|nl<|k16 _ _<|?_
  refine kn6 _ (i0,(some ⟨b11,0,none⟩),0,0,[]) _ ⟨rfl,rfl,rfl,trivial⟩ ⟨((H13.noneQ 5 eY (some ⟨b11,0,none⟩)).pick [0] (by decide)),?_⟩
  dsimp only
  exact ⟨by omega,rfl,Nat.zero_le _,rfl⟩
 ·rintro τ17 ⟨i,a2,m2,c2,b⟩ w18 ⟨H19,hq⟩
  dsimp only at H19 hq ⊢
  intro Q20 kg21 km22 kr23 ke24
  obtain ⟨hi,hb,hm,hq⟩:=hq
  refine seqG fun Q25 kn26 kr27 ke28 kg29=>seqG fun Q30 kn31 kr32 ke33 kg34=>region<|qt mv<|qt mv<|qt (x_lenS rfl Tryz.underlying9 rfl)<|qt (x_eqlN rfl rfl)<|nl<|kn31 _ _<|cnd (p:=i=t.size) rfl (fun h35=>?_) (fun h35=>?_)
  ·refine seqG fun Q36 kn37 kr38 ke39 kg40=>region<|qt mv<|qt asg<|qt asg<|qt asg<|nl<|kn37 _ _<|ret<|kr27 _ _<|kr23 _ _<|leave3 (P:=Tryz.prog) (fn:=Tryz.f120) (t:=4) (u:=5) (s:=6) (v:=.string (ByteArray.mk #[])) (v':=.int .i64 ((i:Nat):Int)) (v'':=.bool false) rfl rfl rfl rfl ?_
   have hR:quotedP ((bl t).drop i0) [] i0=([],i,false):=by first | exact qd_e hq (by omega) | exact qd_q hq (by omega) (by assumption) | exact qd_x hq (by omega) (by assumption) (by omega) | exact sl_e hq (by omega) | exact sl_o hq (by omega) (by omega) | exact fi_e hq (by omega) | exact fi_f hq (by omega) (by omega) (by omega)
   exact ⟨by rw [hR];dsimp only;rw [sN_nil];rfl,H19.x⟩
  ·refine skip<|kn26 _ _<|seqG fun Q41 kn42 kr43 ke44 kg45=>seqG fun Q46 kn47 kr48 ke49 kg50=>region<|qt mv<|qt mv<|qt (x_indexS Tryz.underlying9 rfl rfl (by omega))<|qt (x_eqlN (b:=34) rfl rfl)<|nl<|kn47 _ _<|cnd (p:=(ch t i)=34) rfl (fun h51=>?_) (fun h51=>?_)
   ·refine seqG fun Q52 kn53 kr54 ke55 kg56=>region<|qt mv<|qt (x_toS Tryz.underlying120 Tryz.underlying5 Tryz.underlying9 rfl (H19.srQ 0 rfl))<|qt mv<|qt (addN (b:=1) rfl rfl)<|qt asg<|qt asg<|qt asg<|nl<|kn53 _ _<|ret<|kr43 _ _<|kr23 _ _<|leave3 (P:=Tryz.prog) (fn:=Tryz.f120) (t:=4) (u:=5) (s:=6) (v:=.string (sN b)) (v':=.int .i64 (((i+1):Nat):Int)) (v'':=.bool true) rfl rfl rfl rfl ?_
    have hR:quotedP ((bl t).drop i0) [] i0=(b,(i+1),true):=by first | exact qd_e hq (by omega) | exact qd_q hq (by omega) (by assumption) | exact qd_x hq (by omega) (by assumption) (by omega) | exact sl_e hq (by omega) | exact sl_o hq (by omega) (by omega) | exact fi_e hq (by omega) | exact fi_f hq (by omega) (by omega) (by omega)
    exact ⟨by rw [hR],H19.x⟩
   ·refine skip<|kn42 _ _<|seqG fun Q57 kn58 kr59 ke60 kg61=>seqG fun Q62 kn63 kr64 ke65 kg66=>region<|qt mv<|qt (x_lenSl rfl Tryz.underlying120 rfl)<|qt (x_eqlN (b:=1024) rfl rfl)<|st_if (p:=m2=1024) (x_move rfl) (fun h67=>?_) (fun h67=>?_)
    ·refine st_gn 3 26 rfl rfl (by decide) rfl<|st_gn 3 26 rfl rfl (by decide) rfl<|st_gn 3 26 rfl rfl (by decide) rfl<|st_gn 3 26 rfl rfl (by decide) rfl<|qt (pkT rfl)<|qt mv<|st_gn 9 32 rfl rfl (by decide) rfl<|st_gn 9 32 rfl rfl (by decide) rfl<|st_gn 9 32 rfl rfl (by decide) rfl<|st_gn 9 32 rfl rfl (by decide) rfl<|qt (pkT rfl)<|nl<|kn63 _ _<|cndT rfl<|seqG fun Q68 kn69 kr70 ke71 kg72=>region<|qt mv<|qt asg<|qt asg<|qt asg<|nl<|kn69 _ _<|ret<|kr59 _ _<|kr23 _ _<|leave3 (P:=Tryz.prog) (fn:=Tryz.f120) (t:=4) (u:=5) (s:=6) (v:=.string (ByteArray.mk #[])) (v':=.int .i64 ((i:Nat):Int)) (v'':=.bool false) rfl rfl rfl rfl ?_
     have hR:quotedP ((bl t).drop i0) [] i0=([],i,false):=by first | exact qd_e hq (by omega) | exact qd_q hq (by omega) (by assumption) | exact qd_x hq (by omega) (by assumption) (by omega) | exact sl_e hq (by omega) | exact sl_o hq (by omega) (by omega) | exact fi_e hq (by omega) | exact fi_f hq (by omega) (by omega) (by omega)
     exact ⟨by rw [hR];dsimp only;rw [sN_nil];rfl,H19.x⟩
    ·refine st_gq 3 26 rfl rfl (by decide)<|qt mv<|st_gq 3 26 rfl rfl (by decide)<|qt mv<|st_gq 3 26 rfl rfl (by decide)<|qt (x_indexS Tryz.underlying9 rfl rfl (by omega))<|st_gq 3 26 rfl rfl (by decide)<|qt (x_lssN (b:=32) rfl rfl)<|qt (pkF rfl)<|st_if (p:=(ch t i)<32) (x_move rfl) (fun h73=>?_) (fun h73=>?_)
     ·refine st_gn 9 32 rfl rfl (by decide) rfl<|st_gn 9 32 rfl rfl (by decide) rfl<|st_gn 9 32 rfl rfl (by decide) rfl<|st_gn 9 32 rfl rfl (by decide) rfl<|qt (pkT rfl)<|nl<|kn63 _ _<|cndT rfl<|seqG fun Q74 kn75 kr76 ke77 kg78=>region<|qt mv<|qt asg<|qt asg<|qt asg<|nl<|kn75 _ _<|ret<|kr59 _ _<|kr23 _ _<|leave3 (P:=Tryz.prog) (fn:=Tryz.f120) (t:=4) (u:=5) (s:=6) (v:=.string (ByteArray.mk #[])) (v':=.int .i64 ((i:Nat):Int)) (v'':=.bool false) rfl rfl rfl rfl ?_
      have hR:quotedP ((bl t).drop i0) [] i0=([],i,false):=by first | exact qd_e hq (by omega) | exact qd_q hq (by omega) (by assumption) | exact qd_x hq (by omega) (by assumption) (by omega) | exact sl_e hq (by omega) | exact sl_o hq (by omega) (by omega) | exact fi_e hq (by omega) | exact fi_f hq (by omega) (by omega) (by omega)
      exact ⟨by rw [hR];dsimp only;rw [sN_nil];rfl,H19.x⟩
     ·refine st_gq 9 32 rfl rfl (by decide)<|qt mv<|st_gq 9 32 rfl rfl (by decide)<|qt mv<|st_gq 9 32 rfl rfl (by decide)<|qt (x_indexS Tryz.underlying9 rfl rfl (by omega))<|st_gq 9 32 rfl rfl (by decide)<|qt (x_gtrN (b:=126) rfl rfl)<|qt (pkF rfl)<|nl<|kn63 _ _<|cnd (p:=126<(ch t i)) rfl (fun h79=>?_) (fun h79=>?_)
      ·refine seqG fun Q80 kn81 kr82 ke83 kg84=>region<|qt mv<|qt asg<|qt asg<|qt asg<|nl<|kn81 _ _<|ret<|kr59 _ _<|kr23 _ _<|leave3 (P:=Tryz.prog) (fn:=Tryz.f120) (t:=4) (u:=5) (s:=6) (v:=.string (ByteArray.mk #[])) (v':=.int .i64 ((i:Nat):Int)) (v'':=.bool false) rfl rfl rfl rfl ?_
       have hR:quotedP ((bl t).drop i0) [] i0=([],i,false):=by first | exact qd_e hq (by omega) | exact qd_q hq (by omega) (by assumption) | exact qd_x hq (by omega) (by assumption) (by omega) | exact sl_e hq (by omega) | exact sl_o hq (by omega) (by omega) | exact fi_e hq (by omega) | exact fi_f hq (by omega) (by omega) (by omega)
       exact ⟨by rw [hR];dsimp only;rw [sN_nil];rfl,H19.x⟩
      ·refine skip<|kn58 _ _<|seqG fun Q85 kn86 kr87 ke88 kg89=>seqG fun Q90 kn91 kr92 ke93 kg94=>region<|qt mv<|qt mv<|qt (x_indexS Tryz.underlying9 rfl rfl (by omega))<|qt (x_eqlN (b:=92) rfl rfl)<|nl<|kn91 _ _<|cnd (p:=(ch t i)=92) rfl (fun h95=>?_) (fun h95=>?_)
       ·refine seqG fun Q96 kn97 kr98 ke99 kg100=>region<|qt mv<|qt (addN (b:=1) rfl rfl)<|qt asg<|nl<|kn97 _ _<|gotoS<|kg89 _ _ _<|?_
        refine kg21 1 _ ((i+1),a2,m2,c2,b) _ (by decide) ⟨rfl,rfl,rfl,trivial⟩ ⟨(H19.pick [0] (by decide)),?_⟩ ?_
        ·dsimp only
         exact ⟨by omega,hb,by omega,qd_s hq (by omega) (by assumption) (by omega) (by assumption)⟩
        ·dsimp only
         omega
       ·refine skip<|kn86 _ _<|seqG fun Q101 kn102 kr103 ke104 kg105=>region<|qt mv<|qt mv<|qt mv<|qt (x_indexS Tryz.underlying9 rfl rfl (by omega))<|?_
        refine st_e<|Ebs (cs:=[.int .u8 (((ch t i):Nat):Int)]) (e:=5) H19 (fun _=>by kernel_rfl) fun b106 w107 H108 x109=>?_
        refine st_e<|EapQ H108 1 T.sl120 rfl rfl rfl (H108.lst (E:=eY) 0 rfl (ch t i) rfl) (by omega) rfl rfl fun a110 c111 w112 H113=>qt asg<|nl<|kn102 _ _<|seqG fun Q114 kn115 kr116 ke117 kg118=>region<|qt mv<|qt (addN (b:=1) rfl rfl)<|qt asg<|nl<|kn115 _ _<|seqG fun Q119 kn120 kr121 ke122 kg123=>gotoS<|kg123 _ _ _<|?_
        refine kg21 0 _ ((i+1),a110,(m2+1),c111,(b++[(ch t i)])) _ (by decide) ⟨rfl,rfl,rfl,trivial⟩ ⟨(H113.pick [1] (by decide)),?_⟩ ?_
        ·dsimp only
         exact ⟨by omega,by rw [List.length_append,hb];rfl,by omega,qd_n hq (by omega) (by assumption) (by omega) (by assumption)⟩
        ·dsimp only
         omega
 ·rintro τ124 ⟨i,a2,m2,c2,b⟩ w125 ⟨H126,hq⟩
  dsimp only at H126 hq ⊢
  intro Q127 kg128 km129 kr130 ke131
  obtain ⟨hi,hb,hm,hq⟩:=hq
  refine seqG fun Q132 kn133 kr134 ke135 kg136=>seqG fun Q137 kn138 kr139 ke140 kg141=>region<|qt mv<|qt mv<|qt (x_lenS rfl Tryz.underlying9 rfl)<|qt (x_eqlN rfl rfl)<|nl<|kn138 _ _<|cnd (p:=i=t.size) rfl (fun h142=>?_) (fun h142=>?_)
  ·refine seqG fun Q143 kn144 kr145 ke146 kg147=>region<|qt mv<|qt asg<|qt asg<|qt asg<|nl<|kn144 _ _<|ret<|kr134 _ _<|kr130 _ _<|leave3 (P:=Tryz.prog) (fn:=Tryz.f120) (t:=4) (u:=5) (s:=6) (v:=.string (ByteArray.mk #[])) (v':=.int .i64 ((i:Nat):Int)) (v'':=.bool false) rfl rfl rfl rfl ?_
   have hR:quotedP ((bl t).drop i0) [] i0=([],i,false):=by first | exact qd_e hq (by omega) | exact qd_q hq (by omega) (by assumption) | exact qd_x hq (by omega) (by assumption) (by omega) | exact sl_e hq (by omega) | exact sl_o hq (by omega) (by omega) | exact fi_e hq (by omega) | exact fi_f hq (by omega) (by omega) (by omega)
   exact ⟨by rw [hR];dsimp only;rw [sN_nil];rfl,H126.x⟩
  ·refine skip<|kn133 _ _<|seqG fun Q148 kn149 kr150 ke151 kg152=>seqG fun Q153 kn154 kr155 ke156 kg157=>region<|qt mv<|qt mv<|qt (x_indexS Tryz.underlying9 rfl rfl (by omega))<|nl<|kn154 _ _<|?_
   refine blockG fun Q158 kn159 kr160 kx161 kb162 kg163=>seqG fun Q164 kn165 kr166 ke167 kg168=>seqG fun Q169 kn170 kr171 ke172 kg173=>region<|qt (x_eqlN (b:=34) rfl rfl)<|qt asg<|nl<|kn170 _ _<|cnd (p:=(ch t i)=34) rfl (fun h174=>?_) (fun h174=>?_)
   ·refine skip<|kn165 _ _<|cndY (p:=(ch t i)=34) rfl (not_not_intro h174)<|region<|qt mv<|qt mv<|qt mv<|qt (x_indexS Tryz.underlying9 rfl rfl (by omega))<|?_
    refine st_e<|Ebs (cs:=[.int .u8 (((ch t i):Nat):Int)]) (e:=5) H126 (fun _=>by kernel_rfl) fun b175 w176 H177 x178=>?_
    refine st_e<|EapQ H177 1 T.sl120 rfl rfl rfl (H177.lst (E:=eY) 0 rfl (ch t i) rfl) (by omega) rfl rfl fun a179 c180 w181 H182=>qt asg<|nl<|kn159 _ _<|kn149 _ _<|seqG fun Q183 kn184 kr185 ke186 kg187=>region<|qt mv<|qt (addN (b:=1) rfl rfl)<|qt asg<|nl<|kn184 _ _<|seqG fun Q188 kn189 kr190 ke191 kg192=>gotoS<|kg192 _ _ _<|?_
    refine kg128 0 _ ((i+1),a179,(m2+1),c180,(b++[(ch t i)])) _ (by decide) ⟨rfl,rfl,rfl,trivial⟩ ⟨(H182.pick [1] (by decide)),?_⟩ ?_
    ·dsimp only
     exact ⟨by omega,by rw [List.length_append,hb];rfl,by omega,sl_p hq (by omega) (by omega)⟩
    ·dsimp only
     omega
   ·refine region<|qt (x_eqlN (b:=92) rfl rfl)<|qt asg<|nl<|kn165 _ _<|cnd (p:=(ch t i)=92) rfl (fun h193=>?_) (fun h193=>?_)
    ·refine region<|qt mv<|qt mv<|qt mv<|qt (x_indexS Tryz.underlying9 rfl rfl (by omega))<|?_
     refine st_e<|Ebs (cs:=[.int .u8 (((ch t i):Nat):Int)]) (e:=5) H126 (fun _=>by kernel_rfl) fun b194 w195 H196 x197=>?_
     refine st_e<|EapQ H196 1 T.sl120 rfl rfl rfl (H196.lst (E:=eY) 0 rfl (ch t i) rfl) (by omega) rfl rfl fun a198 c199 w200 H201=>qt asg<|nl<|kn159 _ _<|kn149 _ _<|seqG fun Q202 kn203 kr204 ke205 kg206=>region<|qt mv<|qt (addN (b:=1) rfl rfl)<|qt asg<|nl<|kn203 _ _<|seqG fun Q207 kn208 kr209 ke210 kg211=>gotoS<|kg211 _ _ _<|?_
     refine kg128 0 _ ((i+1),a198,(m2+1),c199,(b++[(ch t i)])) _ (by decide) ⟨rfl,rfl,rfl,trivial⟩ ⟨(H201.pick [1] (by decide)),?_⟩ ?_
     ·dsimp only
      exact ⟨by omega,by rw [List.length_append,hb];rfl,by omega,sl_p hq (by omega) (by omega)⟩
     ·dsimp only
      omega
    ·refine seqG fun Q212 kn213 kr214 ke215 kg216=>region<|qt (x_eqlN (b:=110) rfl rfl)<|qt asg<|nl<|kn213 _ _<|cnd (p:=(ch t i)=110) rfl (fun h217=>?_) (fun h217=>?_)
     ·refine region<|qt mv<|?_
      refine st_e<|Ebs (cs:=[.int .u8 ((10:Nat):Int)]) (e:=5) H126 (fun _=>by kernel_rfl) fun b218 w219 H220 x221=>?_
      refine st_e<|EapQ H220 1 T.sl120 rfl rfl rfl (H220.lst (E:=eY) 0 rfl 10 rfl) (by omega) rfl rfl fun a222 c223 w224 H225=>qt asg<|nl<|kn159 _ _<|kn149 _ _<|seqG fun Q226 kn227 kr228 ke229 kg230=>region<|qt mv<|qt (addN (b:=1) rfl rfl)<|qt asg<|nl<|kn227 _ _<|seqG fun Q231 kn232 kr233 ke234 kg235=>gotoS<|kg235 _ _ _<|?_
      refine kg128 0 _ ((i+1),a222,(m2+1),c223,(b++[10])) _ (by decide) ⟨rfl,rfl,rfl,trivial⟩ ⟨(H225.pick [1] (by decide)),?_⟩ ?_
      ·dsimp only
       exact ⟨by omega,by rw [List.length_append,hb];rfl,by omega,sl_p hq (by omega) (by omega)⟩
      ·dsimp only
       omega
     ·refine seqG fun Q236 kn237 kr238 ke239 kg240=>region<|qt (x_eqlN (b:=116) rfl rfl)<|qt asg<|nl<|kn237 _ _<|cnd (p:=(ch t i)=116) rfl (fun h241=>?_) (fun h241=>?_)
      ·refine region<|qt mv<|?_
       refine st_e<|Ebs (cs:=[.int .u8 ((9:Nat):Int)]) (e:=5) H126 (fun _=>by kernel_rfl) fun b242 w243 H244 x245=>?_
       refine st_e<|EapQ H244 1 T.sl120 rfl rfl rfl (H244.lst (E:=eY) 0 rfl 9 rfl) (by omega) rfl rfl fun a246 c247 w248 H249=>qt asg<|nl<|kn159 _ _<|kn149 _ _<|seqG fun Q250 kn251 kr252 ke253 kg254=>region<|qt mv<|qt (addN (b:=1) rfl rfl)<|qt asg<|nl<|kn251 _ _<|seqG fun Q255 kn256 kr257 ke258 kg259=>gotoS<|kg259 _ _ _<|?_
       refine kg128 0 _ ((i+1),a246,(m2+1),c247,(b++[9])) _ (by decide) ⟨rfl,rfl,rfl,trivial⟩ ⟨(H249.pick [1] (by decide)),?_⟩ ?_
       ·dsimp only
        exact ⟨by omega,by rw [List.length_append,hb];rfl,by omega,sl_p hq (by omega) (by omega)⟩
       ·dsimp only
        omega
      ·refine seqG fun Q260 kn261 kr262 ke263 kg264=>region<|qt (x_eqlN (b:=120) rfl rfl)<|qt asg<|nl<|kn261 _ _<|cnd (p:=(ch t i)=120) rfl (fun h265=>?_) (fun h265=>?_)
       ·refine seqG fun Q266 kn267 kr268 ke269 kg270=>region<|qt mv<|qt (addN (b:=1) rfl rfl)<|qt asg<|nl<|kn267 _ _<|gotoS<|kg163 _ _ _<|kg152 _ _ _<|?_
        refine kg128 2 _ ((i+1),a2,m2,c2,b) _ (by decide) ⟨rfl,rfl,rfl,trivial⟩ ⟨(H126.pick [0] (by decide)),?_⟩ ?_
        ·dsimp only
         exact ⟨by omega,hb,by omega,sl_x hq (by omega) (by assumption)⟩
        ·dsimp only
         omega
       ·refine seqG fun Q271 kn272 kr273 ke274 kg275=>region<|qt mv<|qt asg<|qt asg<|qt asg<|nl<|kn272 _ _<|ret<|kr160 _ _<|kr150 _ _<|kr130 _ _<|leave3 (P:=Tryz.prog) (fn:=Tryz.f120) (t:=4) (u:=5) (s:=6) (v:=.string (ByteArray.mk #[])) (v':=.int .i64 ((i:Nat):Int)) (v'':=.bool false) rfl rfl rfl rfl ?_
        have hR:quotedP ((bl t).drop i0) [] i0=([],i,false):=by first | exact qd_e hq (by omega) | exact qd_q hq (by omega) (by assumption) | exact qd_x hq (by omega) (by assumption) (by omega) | exact sl_e hq (by omega) | exact sl_o hq (by omega) (by omega) | exact fi_e hq (by omega) | exact fi_f hq (by omega) (by omega) (by omega)
        exact ⟨by rw [hR];dsimp only;rw [sN_nil];rfl,H126.x⟩
 ·rintro τ276 ⟨i,a2,m2,c2,b⟩ w277 ⟨H278,hq⟩
  dsimp only at H278 hq ⊢
  intro Q279 kg280 km281 kr282 ke283
  obtain ⟨hi,hb,hm,hq⟩:=hq
  refine seqG fun Q284 kn285 kr286 ke287 kg288=>seqG fun Q289 kn290 kr291 ke292 kg293=>region<|qt mv<|qt mv<|qt (x_lenS rfl Tryz.underlying9 rfl)<|qt (x_eqlN rfl rfl)<|st_if (p:=i=t.size) (x_move rfl) (fun h294=>?_) (fun h294=>?_)
  ·refine st_gn 4 91 rfl rfl (by decide) rfl<|st_gn 4 91 rfl rfl (by decide) rfl<|st_gn 4 91 rfl rfl (by decide) rfl<|st_gn 4 91 rfl rfl (by decide) rfl<|st_gn 4 91 rfl rfl (by decide) rfl<|qt (pkT rfl)<|nl<|kn290 _ _<|cndT rfl<|seqG fun Q295 kn296 kr297 ke298 kg299=>region<|qt mv<|qt asg<|qt asg<|qt asg<|nl<|kn296 _ _<|ret<|kr286 _ _<|kr282 _ _<|leave3 (P:=Tryz.prog) (fn:=Tryz.f120) (t:=4) (u:=5) (s:=6) (v:=.string (ByteArray.mk #[])) (v':=.int .i64 ((i:Nat):Int)) (v'':=.bool false) rfl rfl rfl rfl ?_
   have hR:quotedP ((bl t).drop i0) [] i0=([],i,false):=by first | exact qd_e hq (by omega) | exact qd_q hq (by omega) (by assumption) | exact qd_x hq (by omega) (by assumption) (by omega) | exact sl_e hq (by omega) | exact sl_o hq (by omega) (by omega) | exact fi_e hq (by omega) | exact fi_f hq (by omega) (by omega) (by omega)
   exact ⟨by rw [hR];dsimp only;rw [sN_nil];rfl,H278.x⟩
  ·refine st_gq 4 91 rfl rfl (by decide)<|qt mv<|st_gq 4 91 rfl rfl (by decide)<|qt mv<|st_gq 4 91 rfl rfl (by decide)<|qt (x_indexS Tryz.underlying9 rfl rfl (by omega))<|st_gq 4 91 rfl rfl (by decide)<|?_
   refine cl T.cf193 (half193 _ _) rfl fun _ _ ⟨er,rfl⟩=>⟨_,er,?_⟩
   refine st_gq 4 91 rfl rfl (by decide)<|qt (x_lss rfl rfl)<|qt (pkF rfl)<|nl<|kn290 _ _<|cnd (p:=(hx (ch t i))<0) rfl (fun h301=>?_) (fun h301=>?_)
   ·refine seqG fun Q302 kn303 kr304 ke305 kg306=>region<|qt mv<|qt asg<|qt asg<|qt asg<|nl<|kn303 _ _<|ret<|kr286 _ _<|kr282 _ _<|leave3 (P:=Tryz.prog) (fn:=Tryz.f120) (t:=4) (u:=5) (s:=6) (v:=.string (ByteArray.mk #[])) (v':=.int .i64 ((i:Nat):Int)) (v'':=.bool false) rfl rfl rfl rfl ?_
    have hR:quotedP ((bl t).drop i0) [] i0=([],i,false):=by first | exact qd_e hq (by omega) | exact qd_q hq (by omega) (by assumption) | exact qd_x hq (by omega) (by assumption) (by omega) | exact sl_e hq (by omega) | exact sl_o hq (by omega) (by omega) | exact fi_e hq (by omega) | exact fi_f hq (by omega) (by omega) (by omega)
    exact ⟨by rw [hR];dsimp only;rw [sN_nil];rfl,H278.x⟩
   ·refine skip<|kn285 _ _<|seqG fun Q307 kn308 kr309 ke310 kg311=>region<|qt mv<|qt mv<|qt (x_indexS Tryz.underlying9 rfl rfl (by omega))<|?_
    refine cl T.cf193 (half193 _ _) rfl fun _ _ ⟨er,rfl⟩=>⟨_,er,?_⟩
    refine qt asg<|nl<|kn308 _ _<|seqG fun Q313 kn314 kr315 ke316 kg317=>region<|qt mv<|qt (addN (b:=1) rfl rfl)<|qt asg<|nl<|kn314 _ _<|seqG fun Q318 kn319 kr320 ke321 kg322=>seqG fun Q323 kn324 kr325 ke326 kg327=>region<|qt mv<|qt mv<|qt (x_lenS rfl Tryz.underlying9 rfl)<|qt (x_eqlN rfl rfl)<|st_if (p:=(i+1)=t.size) (x_move rfl) (fun h328=>?_) (fun h328=>?_)
    ·refine st_gn 4 109 rfl rfl (by decide) rfl<|st_gn 4 109 rfl rfl (by decide) rfl<|st_gn 4 109 rfl rfl (by decide) rfl<|st_gn 4 109 rfl rfl (by decide) rfl<|st_gn 4 109 rfl rfl (by decide) rfl<|qt (pkT rfl)<|nl<|kn324 _ _<|cndT rfl<|seqG fun Q329 kn330 kr331 ke332 kg333=>region<|qt mv<|qt asg<|qt asg<|qt asg<|nl<|kn330 _ _<|ret<|kr320 _ _<|kr282 _ _<|leave3 (P:=Tryz.prog) (fn:=Tryz.f120) (t:=4) (u:=5) (s:=6) (v:=.string (ByteArray.mk #[])) (v':=.int .i64 (((i+1):Nat):Int)) (v'':=.bool false) rfl rfl rfl rfl ?_
     have hR:quotedP ((bl t).drop i0) [] i0=([],(i+1),false):=by first | exact qd_e hq (by omega) | exact qd_q hq (by omega) (by assumption) | exact qd_x hq (by omega) (by assumption) (by omega) | exact sl_e hq (by omega) | exact sl_o hq (by omega) (by omega) | exact fi_e hq (by omega) | exact fi_f hq (by omega) (by omega) (by omega)
     exact ⟨by rw [hR];dsimp only;rw [sN_nil];rfl,H278.x⟩
    ·refine st_gq 4 109 rfl rfl (by decide)<|qt mv<|st_gq 4 109 rfl rfl (by decide)<|qt mv<|st_gq 4 109 rfl rfl (by decide)<|qt (x_indexS Tryz.underlying9 rfl rfl (by omega))<|st_gq 4 109 rfl rfl (by decide)<|?_
     refine cl T.cf193 (half193 _ _) rfl fun _ _ ⟨er,rfl⟩=>⟨_,er,?_⟩
     refine st_gq 4 109 rfl rfl (by decide)<|qt (x_lss rfl rfl)<|qt (pkF rfl)<|nl<|kn324 _ _<|cnd (p:=(hx (ch t (i+1)))<0) rfl (fun h335=>?_) (fun h335=>?_)
     ·refine seqG fun Q336 kn337 kr338 ke339 kg340=>region<|qt mv<|qt asg<|qt asg<|qt asg<|nl<|kn337 _ _<|ret<|kr320 _ _<|kr282 _ _<|leave3 (P:=Tryz.prog) (fn:=Tryz.f120) (t:=4) (u:=5) (s:=6) (v:=.string (ByteArray.mk #[])) (v':=.int .i64 (((i+1):Nat):Int)) (v'':=.bool false) rfl rfl rfl rfl ?_
      have hR:quotedP ((bl t).drop i0) [] i0=([],(i+1),false):=by first | exact qd_e hq (by omega) | exact qd_q hq (by omega) (by assumption) | exact qd_x hq (by omega) (by assumption) (by omega) | exact sl_e hq (by omega) | exact sl_o hq (by omega) (by omega) | exact fi_e hq (by omega) | exact fi_f hq (by omega) (by omega) (by omega)
      exact ⟨by rw [hR];dsimp only;rw [sN_nil];rfl,H278.x⟩
     ·refine skip<|kn319 _ _<|seqG fun Q341 kn342 kr343 ke344 kg345=>region<|qt mv<|qt mv<|qt (x_mul rfl rfl hx_mul)<|qt mv<|qt mv<|qt (x_indexS Tryz.underlying9 rfl rfl (by omega))<|?_
      refine cl T.cf193 (half193 _ _) rfl fun _ _ ⟨er,rfl⟩=>⟨_,er,?_⟩
      refine qt (x_add rfl rfl hx_add)<|?_
      refine Exists.elim (hx_two (c:=ch t i) (d:=ch t (i+1)) (by omega) (by omega)) fun z hz=>?_
      refine qt (x_conv8 (a:=z) Tryz.underlying5 Tryz.underlying3 (iC z rfl hz.1.symm))<|?_
      refine st_e<|Ebs (cs:=[.int .u8 ((z % 256:Nat):Int)]) (e:=5) H278 (fun _=>by kernel_rfl) fun b347 w348 H349 x350=>?_
      refine st_e<|EapQ H349 1 T.sl120 rfl rfl rfl (H349.lst (E:=eY) 0 rfl (z % 256) rfl) (by omega) rfl rfl fun a351 c352 w353 H354=>qt asg<|nl<|kn342 _ _<|seqG fun Q355 kn356 kr357 ke358 kg359=>region<|qt mv<|qt (addN (b:=1) rfl rfl)<|qt asg<|nl<|kn356 _ _<|gotoS<|?_
      refine kg280 0 _ (((i+1)+1),a351,(m2+1),c352,(b++[z % 256])) _ (by decide) ⟨rfl,rfl,rfl,trivial⟩ ⟨(H354.pick [1] (by decide)),?_⟩ ?_
      ·dsimp only
       exact ⟨by omega,by rw [List.length_append,hb];rfl,by omega,fi_n hq (by omega) (by omega) (by omega) (by omega) (x:=z % 256) (by rw [Nat.mod_eq_of_lt hz.2];exact hz.1)⟩
      ·dsimp only
       omega
end Go.Proofs.YtljfgmedbjlkaaaGreat
