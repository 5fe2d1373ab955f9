/- A part of the engine: steps over the model. Over any program. -/
import Derived.Test.YtljfgmedbjlkaaaGreatQA
import Derived.Test.YtljfgmedbjlkaaaGreatV3
import Derived.Test.YtljfgmedbjlkaaaGreatQV
import Derived.Test.YtljfgmedbjlkaaaGreatProg
import Derived.Test.YtljfgmedbjlkaaaGreatQG
namespace Go.Proofs.YtljfgmedbjlkaaaGreat
open Go.RowKit Go.Eng Go.QP
theorem T.fa77_0:FA Tryz.prog 77 0 0:=fun _ _=>by kernel_rfl
theorem T.na23:NA Tryz.prog 23:=fun _=>by kernel_rfl
theorem T.fa77_2:FA Tryz.prog 77 2 2:=fun _ _=>by kernel_rfl
theorem T.ag37:AG Tryz.prog 37 7:=fun _=>⟨by kernel_rfl,by kernel_rfl⟩
theorem T.sl23:SL Tryz.prog 23 37 7 96 (.agg #[.int .i64 ((0:Nat):Int),.string ByteArray.empty,.slice none 0 0,.bool false,.string ByteArray.empty,.bool false,.string ByteArray.empty]):=sl_mk Tryz.underlying23 (by kernel_rfl) rfl (by decide)
theorem T.sz23:SZ Tryz.prog 23 1:=fun _=>by kernel_rfl
theorem T.sz37:SZ Tryz.prog 37 7:=fun _=>by kernel_rfl
theorem T.fa77_1:FA Tryz.prog 77 1 1:=fun _ _=>by kernel_rfl
theorem T.sz75:SZ Tryz.prog 75 1:=fun _=>by kernel_rfl
theorem T.na75:NA Tryz.prog 75:=fun _=>by kernel_rfl
theorem T.fa37_0:FA Tryz.prog 37 0 0:=fun _ _=>by kernel_rfl
theorem T.sz33:SZ Tryz.prog 33 1:=fun _=>by kernel_rfl
theorem T.cf68:CF Tryz.prog 68:=fun _ _=>by kernel_rfl
theorem term67 (t:Tk) (w0:World) :
  Calls Tryz.prog 67 #[.agg (eK.enc t).toArray] w0 fun e w'=>e= .returned (.tuple #[.agg (eT.enc ((termT t.k t.s).getD Tm0)).toArray,.bool (termT t.k t.s).isSome])∧Ext w0 w':=by
 refine enter Tryz.func67 rfl 19 Tryz.ntmps67 rfl<|?_
 refine sr fun Q1 k2=>?_
 refine st_e<|Ebx (v:=.agg #[.int .i64 ((t.k:Nat):Int),.string t.s,.int .i64 ((t.i:Nat):Int),.int .i64 ((t.j:Nat):Int)]) (Hp.start No w0) rfl fun b3 w4 H5 x6=>?_
 refine st_e<|Eal H5 T.zv35 fun b7 w8 H9 x10=>qt asg<|nl<|k2 _ _<|seqK fun Q11 kn12 kr13 ke14=>?_
 refine sr fun Q15 k16=>qt (x_field (o:=0) T.fa71_0 rfl)<|qt (x_load1 T.na69 rfl (H9.ld 1 rfl 0 rfl))<|nl<|k16 _ _<|blockK fun Q17 kn18 kr19 kx20 kb21=>?_
 refine sr fun Q22 k23=>qt (x_eqlN (b:=2) rfl rfl)<|qt asg<|nl<|k23 _ _<|cnd (p:=t.k=2) rfl (fun h24=>?_) (fun h24=>?_)
 ·refine sr fun Q25 k26=>qt (x_field (o:=0) T.fa71_1 rfl)<|qt (x_load1 T.na9 rfl (H9.ld 1 rfl 1 rfl))<|qt (v:=.agg #[.bool true,.string t.s]) (x_build (fun _=>by kernel_rfl))<|?_
  refine st_s<|Est (v:=.agg #[.bool true,.string t.s]) H9 0 T.sz35 rfl rfl rfl rfl rfl rfl fun w27 H28=>qt asg<|nl<|k26 _ _<|ret<|kr19 _ _<|kr13 _ _<|leaveCT (P:=Tryz.prog) (fn:=Tryz.f67) (t:=2) (u:=3) (T:=35) (b:=b7) (o:=0) (cs:=[.bool true,.string t.s]) (v:=.bool true) rfl T.ag35 rfl (H28.lds 0 rfl 0 [.bool true,.string t.s] rfl) rfl ?_
  exact ⟨by unfold termT;rw [if_pos (by omega)];rfl,H28.x⟩
 ·refine seqK fun Q29 kn30 kr31 ke32=>?_
  refine sr fun Q33 k34=>qt (x_eqlN (b:=1) rfl rfl)<|qt asg<|nl<|k34 _ _<|cnd (p:=t.k=1) rfl (fun h35=>?_) (fun h35=>?_)
  ·refine skip<|kn30 _ _<|cndY (p:=t.k=1) rfl (not_not_intro h35)<|?_
   refine sr fun Q36 k37=>qt (x_field (o:=0) T.fa71_1 rfl)<|qt (x_load1 T.na9 rfl (H9.ld 1 rfl 1 rfl))<|qt (v:=.agg #[.bool false,.string t.s]) (x_build (fun _=>by kernel_rfl))<|?_
   refine st_s<|Est (v:=.agg #[.bool false,.string t.s]) H9 0 T.sz35 rfl rfl rfl rfl rfl rfl fun w38 H39=>qt asg<|nl<|k37 _ _<|ret<|kr19 _ _<|kr13 _ _<|leaveCT (P:=Tryz.prog) (fn:=Tryz.f67) (t:=2) (u:=3) (T:=35) (b:=b7) (o:=0) (cs:=[.bool false,.string t.s]) (v:=.bool true) rfl T.ag35 rfl (H39.lds 0 rfl 0 [.bool false,.string t.s] rfl) rfl ?_
   exact ⟨by unfold termT;rw [if_neg (by omega),if_pos (by omega)];rfl,H39.x⟩
  ·refine sr fun Q40 k41=>qt (x_eqlN (b:=3) rfl rfl)<|qt asg<|nl<|k41 _ _<|cnd (p:=t.k=3) rfl (fun h42=>?_) (fun h42=>?_)
   ·refine skip<|kn30 _ _<|cndY (p:=t.k=3) rfl (not_not_intro h42)<|?_
    refine sr fun Q43 k44=>qt (x_field (o:=0) T.fa71_1 rfl)<|qt (x_load1 T.na9 rfl (H9.ld 1 rfl 1 rfl))<|qt (v:=.agg #[.bool false,.string t.s]) (x_build (fun _=>by kernel_rfl))<|?_
    refine st_s<|Est (v:=.agg #[.bool false,.string t.s]) H9 0 T.sz35 rfl rfl rfl rfl rfl rfl fun w45 H46=>qt asg<|nl<|k44 _ _<|ret<|kr19 _ _<|kr13 _ _<|leaveCT (P:=Tryz.prog) (fn:=Tryz.f67) (t:=2) (u:=3) (T:=35) (b:=b7) (o:=0) (cs:=[.bool false,.string t.s]) (v:=.bool true) rfl T.ag35 rfl (H46.lds 0 rfl 0 [.bool false,.string t.s] rfl) rfl ?_
    exact ⟨by unfold termT;rw [if_neg (by omega),if_pos (by omega)];rfl,H46.x⟩
   ·refine region<|qt (x_eqlN (b:=4) rfl rfl)<|qt asg<|nl<|kn30 _ _<|cnd (p:=t.k=4) rfl (fun h47=>?_) (fun h47=>?_)
    ·refine sr fun Q48 k49=>qt (x_field (o:=0) T.fa71_1 rfl)<|qt (x_load1 T.na9 rfl (H9.ld 1 rfl 1 rfl))<|qt (v:=.agg #[.bool false,.string t.s]) (x_build (fun _=>by kernel_rfl))<|?_
     refine st_s<|Est (v:=.agg #[.bool false,.string t.s]) H9 0 T.sz35 rfl rfl rfl rfl rfl rfl fun w50 H51=>qt asg<|nl<|k49 _ _<|ret<|kr19 _ _<|kr13 _ _<|leaveCT (P:=Tryz.prog) (fn:=Tryz.f67) (t:=2) (u:=3) (T:=35) (b:=b7) (o:=0) (cs:=[.bool false,.string t.s]) (v:=.bool true) rfl T.ag35 rfl (H51.lds 0 rfl 0 [.bool false,.string t.s] rfl) rfl ?_
     exact ⟨by unfold termT;rw [if_neg (by omega),if_pos (by omega)];rfl,H51.x⟩
    ·refine skip<|kn18 _ _<|kn12 _ _<|?_
     refine sr fun Q52 k53=>qt (v:=.agg #[.bool false,.string ByteArray.empty]) (x_build (fun _=>by kernel_rfl))<|?_
     refine st_s<|Est (v:=.agg #[.bool false,.string ByteArray.empty]) H9 0 T.sz35 rfl rfl rfl rfl rfl rfl fun w54 H55=>qt asg<|nl<|k53 _ _<|ret<|leaveCT (P:=Tryz.prog) (fn:=Tryz.f67) (t:=2) (u:=3) (T:=35) (b:=b7) (o:=0) (cs:=[.bool false,.string ByteArray.empty]) (v:=.bool false) rfl T.ag35 rfl (H55.lds 0 rfl 0 [.bool false,.string ByteArray.empty] rfl) rfl ?_
     exact ⟨by unfold termT;rw [if_neg (by omega),if_neg (by omega)];rfl,H55.x⟩
theorem done68 (S:Nat→Prop) (bb:Nat) (x:RM) (w0:World) (Hx:Hp S w0 w0 (RMem bb x)) (hr:x.rows.length≤68719476736) :
  Calls Tryz.prog 68 #[.pointer (some ⟨bb,0,none⟩)] w0 fun e w'=>∃ x':RM,x'.rs=doneS x.rs∧e= .returned (.tuple #[])∧Hp S w0 w' (RMem bb x'):=by
 have H0:Hp S w0 w0 [cB bb 77 [.slice x.aq x.rows.length x.cq,.int .i64 ((x.at_:Nat):Int),.int .i64 x.now.1.kind,.string x.now.1.pred,.slice x.now.2.1 x.now.1.args.length x.now.2.2,.bool (decide (x.now.1.left.1=true)),.string x.now.1.left.2,.bool (decide (x.now.1.right.1=true)),.string x.now.1.right.2],cQ 37 eL x.aq x.rows.length x.cq x.rows,cQ 35 eT x.now.2.1 x.now.1.args.length x.now.2.2 x.now.1.args,cF x.rows.length fun k=>pL (el x.rows k)]:=Hx
 refine enter Tryz.func68 rfl 22 Tryz.ntmps68 rfl<|seqK fun Q1 kn2 kr3 ke4=>regionD1 [4,8] [0,1,2,3,4,5,6,7,8,11,12] (.one 0 (.one 1 (.one 2 (.one 3 (.one 4 (.one 5 (.one 6 (.one 7 (.one 8 (.one 9 (.one 10 (.one 11 (.one 12 (.one 13 .done)))))))))))))) (by kernel_rfl) (by kernel_rfl) fun w5 x6 s7=>?_
 have H8:=H0.ext x6
 have S9:Ext w5 w5:=Below.refl _ _
 refine d_q rfl rfl (fun _=>mv)<|d_q rfl rfl (fun _=>mv)<|d_q rfl rfl (fun _=>x_nilCheck rfl)<|d_q rfl rfl (fun _=>x_field (o:=0) T.fa77_0 rfl)<|d_l rfl rfl rfl (fun _ y10=>x_load1 T.na23 rfl ((H8.ld 0 rfl 0 rfl).ext y10))<|d_q rfl rfl (fun _=>mv)<|d_q rfl rfl (fun _=>x_nilCheck rfl)<|d_q rfl rfl (fun _=>x_field (o:=0) T.fa77_2 rfl)<|d_l rfl rfl rfl (fun _ y11=>x_loadA [.int .i64 x.now.1.kind,.string x.now.1.pred,.slice x.now.2.1 x.now.1.args.length x.now.2.2,.bool (decide (x.now.1.left.1=true)),.string x.now.1.left.2,.bool (decide (x.now.1.right.1=true)),.string x.now.1.right.2] T.ag37 rfl ((H8.lds 0 rfl 2 [.int .i64 x.now.1.kind,.string x.now.1.pred,.slice x.now.2.1 x.now.1.args.length x.now.2.2,.bool (decide (x.now.1.left.1=true)),.string x.now.1.left.2,.bool (decide (x.now.1.right.1=true)),.string x.now.1.right.2] rfl).ext y11))<|d_e (by decide)<|d_e' rfl rfl<|Ebs (cs:=[.int .i64 x.now.1.kind,.string x.now.1.pred,.slice x.now.2.1 x.now.1.args.length x.now.2.2,.bool (decide (x.now.1.left.1=true)),.string x.now.1.left.2,.bool (decide (x.now.1.right.1=true)),.string x.now.1.right.2]) (e:=37) H8 (fun _=>by kernel_rfl) fun b12 w13 H14 x15=>?_
 have S16:=S9.trans (x15.mono S9.size)
 refine ⟨fun _=>S16,?_⟩
 refine d_e (by decide)<|d_e' rfl rfl<|EapQ H14 2 T.sl23 rfl rfl rfl (H14.lst (E:=eL) 0 rfl x.now rfl) (by omega) rfl rfl fun a17 c18 w19 H20=>⟨need_no (by kernel_rfl),?_⟩
 refine d_q rfl rfl (fun _=>x_nilCheck rfl)<|d_q rfl rfl (fun _=>x_field (o:=0) T.fa77_0 rfl)<|d_e (by decide)<|d_s' rfl rfl<|Est (v:=.slice a17 (x.rows.length+1) c18) H20 1 T.sz23 rfl rfl rfl rfl rfl rfl fun w21 H22=>⟨need_no (by kernel_rfl),?_⟩
 refine d_done<|kn2 _ _<|?_
 refine sr fun Q23 k24=>qt mv<|qt (v:=.agg #[.int .i64 ((0:Nat):Int),.string ByteArray.empty,.slice none 0 0,.bool false,.string ByteArray.empty,.bool false,.string ByteArray.empty]) (x_build (fun _=>by kernel_rfl))<|qt (x_nilCheck rfl)<|qt (x_field (o:=0) T.fa77_2 rfl)<|?_
 refine st_s<|Est (v:=.agg #[.int .i64 ((0:Nat):Int),.string ByteArray.empty,.slice none 0 0,.bool false,.string ByteArray.empty,.bool false,.string ByteArray.empty]) H22 1 T.sz37 rfl rfl rfl rfl rfl rfl fun w25 H26=>nl<|k24 _ _<|region<|qt mv<|qt (x_nilCheck rfl)<|qt (x_field (o:=0) T.fa77_1 rfl)<|?_
 refine st_s<|Est (v:=.int .i64 ((8:Nat):Int)) H26 1 T.sz75 rfl rfl rfl rfl rfl rfl fun w27 H28=>nl<|leave0' (P:=Tryz.prog) (fn:=Tryz.f68) rfl<|?_
 have H1:=Hp.push1G (i:=2) (p:=pL) (u:=x.now) (H28.pick [3,1,2,4] (by decide)) rfl rfl rfl
 exact ⟨⟨(x.rows++[x.now]),a17,c18,8,(⟨0,ByteArray.empty,[],Tm0,Tm0⟩,(none,0))⟩,by simp [RM.rs,doneS],rfl,RMem.mk' (by simp) rfl (Hp.pick (H1.nilQ 35 eT) [1,2,0,3] (by decide))⟩
theorem wants27 (bb at_ k:Nat) (w0:World) (hc:Cells w0.heap bb 1 [.int .i64 ((at_:Nat):Int)]) :
  Calls Tryz.prog 27 #[.pointer (some ⟨bb,0,none⟩),.int .i64 ((k:Nat):Int)] w0 fun e w'=>e= .returned (.bool (decide (wantsS at_ k)))∧w0=w':=by
 refine enter Tryz.func27 rfl 17 Tryz.ntmps27 rfl<|?_
 refine sr fun Q1 k2=>qt asg<|nl<|k2 _ _<|seqK fun Q3 kn4 kr5 ke6=>?_
 refine sr fun Q7 k8=>qt mv<|qt (x_nilCheck rfl)<|qt (x_field (o:=0) T.fa77_1 rfl)<|qt (x_load1 T.na75 rfl (hc))<|nl<|k8 _ _<|blockK fun Q9 kn10 kr11 kx12 kb13=>seqK fun Q14 kn15 kr16 ke17=>?_
 refine sr fun Q18 k19=>qt (x_eqlN (b:=0) rfl rfl)<|qt asg<|nl<|k19 _ _<|cnd (p:=at_=0) rfl (fun h20=>?_) (fun h20=>?_)
 ·refine skip<|kn15 _ _<|cndY (p:=at_=0) rfl (not_not_intro h20)<|?_
  exact sr fun Q21 k22=>qt asg<|nl<|k22 _ _<|ret<|kr11 _ _<|kr5 _ _<|leave1 (P:=Tryz.prog) (fn:=Tryz.f27) (t:=4) (v:=.bool true) rfl rfl<|⟨congrArg Ending.returned (dT (p:=wantsS at_ k) (by unfold wantsS;omega)),rfl⟩
 ·refine sr fun Q23 k24=>qt (x_eqlN (b:=4) rfl rfl)<|qt asg<|nl<|k24 _ _<|cnd (p:=at_=4) rfl (fun h25=>?_) (fun h25=>?_)
  ·refine skip<|kn15 _ _<|cndY (p:=at_=4) rfl (not_not_intro h25)<|?_
   exact sr fun Q26 k27=>qt asg<|nl<|k27 _ _<|ret<|kr11 _ _<|kr5 _ _<|leave1 (P:=Tryz.prog) (fn:=Tryz.f27) (t:=4) (v:=.bool true) rfl rfl<|⟨congrArg Ending.returned (dT (p:=wantsS at_ k) (by unfold wantsS;omega)),rfl⟩
  ·refine region<|qt (x_eqlN (b:=7) rfl rfl)<|qt asg<|nl<|kn15 _ _<|cnd (p:=at_=7) rfl (fun h28=>?_) (fun h28=>?_)
   ·exact sr fun Q29 k30=>qt asg<|nl<|k30 _ _<|ret<|kr11 _ _<|kr5 _ _<|leave1 (P:=Tryz.prog) (fn:=Tryz.f27) (t:=4) (v:=.bool true) rfl rfl<|⟨congrArg Ending.returned (dT (p:=wantsS at_ k) (by unfold wantsS;omega)),rfl⟩
   ·refine sr fun Q31 k32=>qt (x_eqlN (b:=1) rfl rfl)<|qt asg<|nl<|k32 _ _<|cnd (p:=at_=1) rfl (fun h33=>?_) (fun h33=>?_)
    ·exact sr fun Q34 k35=>qt mv<|qt (x_neqN (b:=4) rfl rfl)<|qt asg<|nl<|k35 _ _<|ret<|kr11 _ _<|kr5 _ _<|leave1 (P:=Tryz.prog) (fn:=Tryz.f27) (t:=4) (v:=.bool (decide (k≠4))) rfl rfl<|⟨congrArg Ending.returned (dq (q:=wantsS at_ k) (by unfold wantsS;omega)),rfl⟩
    ·refine skip<|kn10 _ _<|kn4 _ _<|?_
     exact sr fun Q36 k37=>qt asg<|nl<|k37 _ _<|ret<|leave1 (P:=Tryz.prog) (fn:=Tryz.f27) (t:=4) (v:=.bool false) rfl rfl<|⟨congrArg Ending.returned (dF (p:=wantsS at_ k) (by unfold wantsS;omega)),rfl⟩
theorem ends28 (S:Nat→Prop) (bb:Nat) (x:RM) (w0:World) (Hx:Hp S w0 w0 (RMem bb x)) (hr:x.rows.length≤68719476736) :
  Calls Tryz.prog 28 #[.pointer (some ⟨bb,0,none⟩)] w0 fun e w'=>∃ x':RM,x'.rs=endsS x.rs∧e= .returned (.bool (decide (x'.at_=8)))∧Hp S w0 w' (RMem bb x'):=by
 have H0:Hp S w0 w0 [cB bb 77 [.slice x.aq x.rows.length x.cq,.int .i64 ((x.at_:Nat):Int),.int .i64 x.now.1.kind,.string x.now.1.pred,.slice x.now.2.1 x.now.1.args.length x.now.2.2,.bool (decide (x.now.1.left.1=true)),.string x.now.1.left.2,.bool (decide (x.now.1.right.1=true)),.string x.now.1.right.2],cQ 37 eL x.aq x.rows.length x.cq x.rows,cQ 35 eT x.now.2.1 x.now.1.args.length x.now.2.2 x.now.1.args,cF x.rows.length fun k=>pL (el x.rows k)]:=Hx
 refine enter Tryz.func28 rfl 31 Tryz.ntmps28 rfl<|?_
 refine sr fun Q1 k2=>qt asg<|nl<|k2 _ _<|seqK fun Q3 kn4 kr5 ke6=>?_
 refine sr fun Q7 k8=>qt mv<|qt (x_nilCheck rfl)<|qt (x_field (o:=0) T.fa77_1 rfl)<|qt (x_load1 T.na75 rfl (H0.ld 0 rfl 1 rfl))<|qt (x_eqlN (b:=2) rfl rfl)<|nl<|k8 _ _<|cnd (p:=x.at_=2) rfl (fun h9=>?_) (fun h9=>?_)
 ·refine region<|qt mv<|qt (x_nilCheck rfl)<|qt (x_field (o:=0) T.fa77_2 rfl)<|qt (x_field (o:=2) T.fa37_0 rfl)<|?_
  refine st_s<|Est (v:=.int .i64 ((1:Nat):Int)) H0 0 T.sz33 rfl rfl rfl rfl rfl rfl fun w10 H11=>nl<|kn4 _ _<|seqK fun Q12 kn13 kr14 ke15=>?_
  refine sr fun Q16 k17=>qt mv<|qt (x_nilCheck rfl)<|qt (x_field (o:=0) T.fa77_1 rfl)<|qt (x_load1 T.na75 rfl (H11.ld 0 rfl 1 rfl))<|qt (x_eqlN (b:=2) rfl rfl)<|st_if (p:=x.at_=2) (x_move rfl) (fun h18=>?_) (fun h18=>?_)
  ·refine st_gn 5 17 rfl rfl (by decide) rfl<|st_gn 5 17 rfl rfl (by decide) rfl<|st_gn 5 17 rfl rfl (by decide) rfl<|st_gn 5 17 rfl rfl (by decide) rfl<|st_gn 5 17 rfl rfl (by decide) rfl<|qt (pkT rfl)<|nl<|k17 _ _<|cndT rfl<|region<|qt mv<|?_
   have H22:Hp S w0 w10 ([cB bb 77 [.slice x.aq x.rows.length x.cq,.int .i64 ((x.at_:Nat):Int),.int .i64 ((1:Nat):Int),.string x.now.1.pred,.slice x.now.2.1 x.now.1.args.length x.now.2.2,.bool (decide (x.now.1.left.1=true)),.string x.now.1.left.2,.bool (decide (x.now.1.right.1=true)),.string x.now.1.right.2],cQ 37 eL x.aq x.rows.length x.cq x.rows,cQ 35 eT x.now.2.1 x.now.1.args.length x.now.2.2 x.now.1.args,cF x.rows.length fun k=>pL (el x.rows k)]++[]):=(H11.pick [0,1,2,3] (by decide))
   refine cl T.cf68 (done68 _ bb ⟨x.rows,x.aq,x.cq,x.at_,(⟨1,x.now.1.pred,x.now.1.args,x.now.1.left,x.now.1.right⟩,(x.now.2.1,x.now.2.2))⟩ _ (RMem.mk' (by first | rfl | simp) (by first | rfl | simp) H22.startL) hr) rfl fun _ w23 ⟨x19,hx20,er,K21⟩=>⟨_,er,?_⟩
   have H24:=H22.callL K21
   refine nl<|kn13 _ _<|?_
   refine sr fun Q25 k26=>qt mv<|qt (x_nilCheck rfl)<|qt (x_field (o:=0) T.fa77_1 rfl)<|qt (x_load1 T.na75 rfl (H24.ld 0 rfl 1 rfl))<|qt (x_eqlN (b:=8) rfl rfl)<|qt asg<|nl<|k26 _ _<|ret<|leave1 (P:=Tryz.prog) (fn:=Tryz.f28) (t:=2) (v:=.bool (decide (x19.at_=8))) rfl rfl<|?_
   exact ⟨x19,by rw [hx20];unfold endsS;first | (rw [if_pos (show x.rs.at_=2 by assumption)];first | done | rfl) | (rw [if_neg (show ¬ x.rs.at_=2 by assumption),if_pos (show x.rs.at_=3 by assumption)];first | done | rfl),rfl,(H24.pick [0,1,2,3] (by decide))⟩
  ·exact absurd h18 (not_not_intro h9)
 ·refine skip<|kn4 _ _<|seqK fun Q27 kn28 kr29 ke30=>?_
  refine sr fun Q31 k32=>qt mv<|qt (x_nilCheck rfl)<|qt (x_field (o:=0) T.fa77_1 rfl)<|qt (x_load1 T.na75 rfl (H0.ld 0 rfl 1 rfl))<|qt (x_eqlN (b:=2) rfl rfl)<|st_if (p:=x.at_=2) (x_move rfl) (fun h33=>?_) (fun h33=>?_)
  ·exact absurd h33 (h9)
  ·refine st_gq 5 17 rfl rfl (by decide)<|qt mv<|st_gq 5 17 rfl rfl (by decide)<|qt (x_nilCheck rfl)<|st_gq 5 17 rfl rfl (by decide)<|qt (x_field (o:=0) T.fa77_1 rfl)<|st_gq 5 17 rfl rfl (by decide)<|qt (x_load1 T.na75 rfl (H0.ld 0 rfl 1 rfl))<|st_gq 5 17 rfl rfl (by decide)<|qt (x_eqlN (b:=3) rfl rfl)<|qt (pkF rfl)<|nl<|k32 _ _<|cnd (p:=x.at_=3) rfl (fun h34=>?_) (fun h34=>?_)
   ·refine region<|qt mv<|?_
    have H38:Hp S w0 w0 ([cB bb 77 [.slice x.aq x.rows.length x.cq,.int .i64 ((x.at_:Nat):Int),.int .i64 x.now.1.kind,.string x.now.1.pred,.slice x.now.2.1 x.now.1.args.length x.now.2.2,.bool (decide (x.now.1.left.1=true)),.string x.now.1.left.2,.bool (decide (x.now.1.right.1=true)),.string x.now.1.right.2],cQ 37 eL x.aq x.rows.length x.cq x.rows,cQ 35 eT x.now.2.1 x.now.1.args.length x.now.2.2 x.now.1.args,cF x.rows.length fun k=>pL (el x.rows k)]++[]):=(H0.pick [0,1,2,3] (by decide))
    refine cl T.cf68 (done68 _ bb x _ (RMem.mk' (by first | rfl | simp) (by first | rfl | simp) H38.startL) hr) rfl fun _ w39 ⟨x35,hx36,er,K37⟩=>⟨_,er,?_⟩
    have H40:=H38.callL K37
    refine nl<|kn28 _ _<|?_
    refine sr fun Q41 k42=>qt mv<|qt (x_nilCheck rfl)<|qt (x_field (o:=0) T.fa77_1 rfl)<|qt (x_load1 T.na75 rfl (H40.ld 0 rfl 1 rfl))<|qt (x_eqlN (b:=8) rfl rfl)<|qt asg<|nl<|k42 _ _<|ret<|leave1 (P:=Tryz.prog) (fn:=Tryz.f28) (t:=2) (v:=.bool (decide (x35.at_=8))) rfl rfl<|?_
    exact ⟨x35,by rw [hx36];unfold endsS;first | (rw [if_pos (show x.rs.at_=2 by assumption)];first | done | rfl) | (rw [if_neg (show ¬ x.rs.at_=2 by assumption),if_pos (show x.rs.at_=3 by assumption)];first | done | rfl),rfl,(H40.pick [0,1,2,3] (by decide))⟩
   ·refine skip<|kn28 _ _<|?_
    refine sr fun Q43 k44=>qt mv<|qt (x_nilCheck rfl)<|qt (x_field (o:=0) T.fa77_1 rfl)<|qt (x_load1 T.na75 rfl (H0.ld 0 rfl 1 rfl))<|qt (x_eqlN (b:=8) rfl rfl)<|qt asg<|nl<|k44 _ _<|ret<|leave1 (P:=Tryz.prog) (fn:=Tryz.f28) (t:=2) (v:=.bool (decide (x.at_=8))) rfl rfl<|?_
    exact ⟨x,by unfold endsS;rw [if_neg (show ¬ x.rs.at_=2 by assumption),if_neg (show ¬ x.rs.at_=3 by assumption)],rfl,(H0.pick [0,1,2,3] (by decide))⟩
end Go.Proofs.YtljfgmedbjlkaaaGreat
namespace Go.Proofs.YtljfgmedbjlkaaaGreat
open Go.RowKit Go.Eng Go.QP
theorem T.cf67:CF Tryz.prog 67:=fun _ _=>by kernel_rfl
theorem T.fa37_1:FA Tryz.prog 37 1 1:=fun _ _=>by kernel_rfl
theorem T.fa32_0:FA Tryz.prog 32 0 0:=fun _ _=>by kernel_rfl
theorem T.cf28:CF Tryz.prog 28:=fun _ _=>by kernel_rfl
theorem T.fa32_1:FA Tryz.prog 32 1 1:=fun _ _=>by kernel_rfl
theorem T.na30:NA Tryz.prog 30:=fun _=>by kernel_rfl
theorem T.sz30:SZ Tryz.prog 30 1:=fun _=>by kernel_rfl
theorem T.fa37_3:FA Tryz.prog 37 3 5:=fun _ _=>by kernel_rfl
theorem take26 (S:Nat→Prop) (bb:Nat) (x:RM) (w0:World) (Hx:Hp S w0 w0 (RMem bb x)) (t:Tk) (hr:x.rows.length≤68719476736) (ha:x.now.1.args.length≤68719476736) :
  Calls Tryz.prog 26 #[.pointer (some ⟨bb,0,none⟩),.agg (eK.enc t).toArray] w0 fun e w'=>∃ (x':RM) (r:Bool),e= .returned (.bool r)∧((r=true∧takeS x.rs t.k t.s=some x'.rs)∨(r=false∧takeS x.rs t.k t.s=none∧x'=x))∧Hp S w0 w' (RMem bb x'):=by
 have H0:Hp S w0 w0 [cB bb 77 [.slice x.aq x.rows.length x.cq,.int .i64 ((x.at_:Nat):Int),.int .i64 x.now.1.kind,.string x.now.1.pred,.slice x.now.2.1 x.now.1.args.length x.now.2.2,.bool (decide (x.now.1.left.1=true)),.string x.now.1.left.2,.bool (decide (x.now.1.right.1=true)),.string x.now.1.right.2],cQ 37 eL x.aq x.rows.length x.cq x.rows,cQ 35 eT x.now.2.1 x.now.1.args.length x.now.2.2 x.now.1.args,cF x.rows.length fun k=>pL (el x.rows k)]:=Hx
 refine enter Tryz.func26 rfl 209 Tryz.ntmps26 rfl<|?_
 refine sr fun Q1 k2=>?_
 refine st_e<|Ebx (v:=.agg #[.int .i64 ((t.k:Nat):Int),.string t.s,.int .i64 ((t.i:Nat):Int),.int .i64 ((t.j:Nat):Int)]) H0 rfl fun b3 w4 H5 x6=>qt asg<|nl<|k2 _ _<|?_
 refine sr fun Q7 k8=>qt (x_loadA [.int .i64 ((t.k:Nat):Int),.string t.s,.int .i64 ((t.i:Nat):Int),.int .i64 ((t.j:Nat):Int)] T.ag71 rfl (H5.lds 0 rfl 0 [.int .i64 ((t.k:Nat):Int),.string t.s,.int .i64 ((t.i:Nat):Int),.int .i64 ((t.j:Nat):Int)] rfl))<|?_
 refine cl T.cf67 (term67 t _) rfl fun _ w10 ⟨er,X9⟩=>⟨_,er,?_⟩
 have H11:=H5.ext X9
 refine qt mv<|qt (x_extract rfl rfl)<|qt (x_extract rfl rfl)<|?_
 refine st_e<|Eal H11 T.zv35 fun b12 w13 H14 x15=>?_
 refine st_s<|Est (v:=.agg #[.bool (decide (((termT t.k t.s).getD Tm0).1=true)),.string (((termT t.k t.s).getD Tm0).2)]) H14 0 T.sz35 rfl rfl rfl rfl rfl rfl fun w16 H17=>qt asg<|nl<|k8 _ _<|seqK fun Q18 kn19 kr20 ke21=>?_
 refine sr fun Q22 k23=>qt mv<|qt (x_nilCheck rfl)<|qt (x_field (o:=0) T.fa77_1 rfl)<|qt (x_load1 T.na75 rfl (H17.ld 2 rfl 1 rfl))<|nl<|k23 _ _<|blockK fun Q24 kn25 kr26 kx27 kb28=>?_
 refine sr fun Q29 k30=>qt (x_eqlN (b:=0) rfl rfl)<|qt asg<|nl<|k30 _ _<|cnd (p:=x.at_=0) rfl (fun h31=>?_) (fun h31=>?_)
 ·refine seqK fun Q32 kn33 kr34 ke35=>blockK fun Q36 kn37 kr38 kx39 kb40=>?_
  refine sr fun Q41 k42=>qt (x_field (o:=0) T.fa71_0 rfl)<|qt (x_load1 T.na69 rfl (H17.ld 1 rfl 0 rfl))<|qt (x_eqlN (b:=7) rfl rfl)<|qt asg<|nl<|k42 _ _<|cnd (p:=t.k=7) rfl (fun h43=>?_) (fun h43=>?_)
  ·refine sr fun Q44 k45=>qt mv<|qt (x_nilCheck rfl)<|qt (x_field (o:=0) T.fa77_2 rfl)<|qt (x_field (o:=2) T.fa37_0 rfl)<|?_
   refine st_s<|Est (v:=.int .i64 ((2:Nat):Int)) H17 2 T.sz33 rfl rfl rfl rfl rfl rfl fun w46 H47=>nl<|k45 _ _<|region<|qt mv<|qt (x_nilCheck rfl)<|qt (x_field (o:=0) T.fa77_1 rfl)<|?_
   refine st_s<|Est (v:=.int .i64 ((1:Nat):Int)) H47 2 T.sz75 rfl rfl rfl rfl rfl rfl fun w48 H49=>nl<|kn37 _ _<|kn33 _ _<|?_
   refine sr fun Q50 k51=>qt asg<|nl<|k51 _ _<|ret<|kr26 _ _<|kr20 _ _<|leave1 (P:=Tryz.prog) (fn:=Tryz.f26) (t:=4) (v:=.bool true) rfl rfl<|?_
   exact ⟨⟨x.rows,x.aq,x.cq,1,(⟨2,x.now.1.pred,x.now.1.args,x.now.1.left,x.now.1.right⟩,(x.now.2.1,x.now.2.2))⟩,true,rfl,.inl ⟨rfl,s0_not h31 (by omega) rfl⟩,(RMem.mk' (by first | rfl | simp) (by first | rfl | simp) (H49.pick [2,3,4,5] (by decide)))⟩
  ·refine sr fun Q52 k53=>qt (x_field (o:=0) T.fa71_0 rfl)<|qt (x_load1 T.na69 rfl (H17.ld 1 rfl 0 rfl))<|qt (x_eqlN (b:=1) rfl rfl)<|qt asg<|nl<|k53 _ _<|cnd (p:=t.k=1) rfl (fun h54=>?_) (fun h54=>?_)
   ·refine sr fun Q55 k56=>qt mv<|qt (x_field (o:=0) T.fa71_1 rfl)<|qt (x_load1 T.na9 rfl (H17.ld 1 rfl 1 rfl))<|qt (x_nilCheck rfl)<|qt (x_field (o:=0) T.fa77_2 rfl)<|qt (x_field (o:=2) T.fa37_1 rfl)<|qt (x_field (o:=3) T.fa32_0 rfl)<|?_
    refine st_s<|Est (v:=.string t.s) H17 2 T.sz9 rfl rfl rfl rfl rfl rfl fun w57 H58=>nl<|k56 _ _<|region<|qt mv<|qt (x_nilCheck rfl)<|qt (x_field (o:=0) T.fa77_1 rfl)<|?_
    refine st_s<|Est (v:=.int .i64 ((2:Nat):Int)) H58 2 T.sz75 rfl rfl rfl rfl rfl rfl fun w59 H60=>nl<|kn37 _ _<|kn33 _ _<|?_
    refine sr fun Q61 k62=>qt asg<|nl<|k62 _ _<|ret<|kr26 _ _<|kr20 _ _<|leave1 (P:=Tryz.prog) (fn:=Tryz.f26) (t:=4) (v:=.bool true) rfl rfl<|?_
    exact ⟨⟨x.rows,x.aq,x.cq,2,(⟨x.now.1.kind,t.s,x.now.1.args,x.now.1.left,x.now.1.right⟩,(x.now.2.1,x.now.2.2))⟩,true,rfl,.inl ⟨rfl,s0_name h31 (by omega) (by omega) rfl⟩,(RMem.mk' (by first | rfl | simp) (by first | rfl | simp) (H60.pick [2,3,4,5] (by decide)))⟩
   ·refine sr fun Q63 k64=>qt mv<|qt asg<|nl<|k64 _ _<|cndB (b:=(termT t.k t.s).isSome) rfl (fun h65=>?_) (fun h65=>?_)
    ·refine sr fun Q66 k67=>qt mv<|qt (x_loadA [.bool (decide (((termT t.k t.s).getD Tm0).1=true)),.string (((termT t.k t.s).getD Tm0).2)] T.ag35 rfl (H17.lds 0 rfl 0 [.bool (decide (((termT t.k t.s).getD Tm0).1=true)),.string (((termT t.k t.s).getD Tm0).2)] rfl))<|qt (v:=.agg #[.int .i64 ((3:Nat):Int),.string ByteArray.empty,.slice none 0 0,.bool (decide (((termT t.k t.s).getD Tm0).1=true)),.string (((termT t.k t.s).getD Tm0).2),.bool false,.string ByteArray.empty]) (x_build (fun _=>by kernel_rfl))<|qt (x_nilCheck rfl)<|qt (x_field (o:=0) T.fa77_2 rfl)<|?_
     refine st_s<|Est (v:=.agg #[.int .i64 ((3:Nat):Int),.string ByteArray.empty,.slice none 0 0,.bool (decide (((termT t.k t.s).getD Tm0).1=true)),.string (((termT t.k t.s).getD Tm0).2),.bool false,.string ByteArray.empty]) H17 2 T.sz37 rfl rfl rfl rfl rfl rfl fun w68 H69=>nl<|k67 _ _<|region<|qt mv<|qt (x_nilCheck rfl)<|qt (x_field (o:=0) T.fa77_1 rfl)<|?_
     refine st_s<|Est (v:=.int .i64 ((6:Nat):Int)) H69 2 T.sz75 rfl rfl rfl rfl rfl rfl fun w70 H71=>nl<|kn37 _ _<|kn33 _ _<|?_
     refine sr fun Q72 k73=>qt asg<|nl<|k73 _ _<|ret<|kr26 _ _<|kr20 _ _<|leave1 (P:=Tryz.prog) (fn:=Tryz.f26) (t:=4) (v:=.bool true) rfl rfl<|?_
     exact ⟨⟨x.rows,x.aq,x.cq,6,(⟨3,ByteArray.empty,[],((termT t.k t.s).getD Tm0),Tm0⟩,(none,0))⟩,true,rfl,.inl ⟨rfl,s0_term h31 (by omega) (by omega) (by first | assumption | exact Decidable.of_not_not (by assumption)) rfl⟩,(RMem.mk' (by first | rfl | simp) (by first | rfl | simp) ((H71.nilQ 35 eT).pick [3,4,0,6] (by decide)))⟩
    ·refine sr fun Q74 k75=>qt asg<|nl<|k75 _ _<|ret<|kr38 _ _<|kr34 _ _<|kr26 _ _<|kr20 _ _<|leave1 (P:=Tryz.prog) (fn:=Tryz.f26) (t:=4) (v:=.bool false) rfl rfl<|?_
     exact ⟨x,false,rfl,.inr ⟨rfl,s0_none h31 (by omega) (by omega) (by first | assumption | exact Bool.eq_false_iff.2 (by assumption)),rfl⟩,(H17.pick [2,3,4,5] (by decide))⟩
 ·refine sr fun Q76 k77=>qt (x_eqlN (b:=1) rfl rfl)<|qt asg<|nl<|k77 _ _<|cnd (p:=x.at_=1) rfl (fun h78=>?_) (fun h78=>?_)
  ·refine seqK fun Q79 kn80 kr81 ke82=>?_
   refine sr fun Q83 k84=>qt (x_field (o:=0) T.fa71_0 rfl)<|qt (x_load1 T.na69 rfl (H17.ld 1 rfl 0 rfl))<|qt (x_neqN (b:=1) rfl rfl)<|nl<|k84 _ _<|cnd (p:=t.k≠1) rfl (fun h85=>?_) (fun h85=>?_)
   ·refine sr fun Q86 k87=>qt asg<|nl<|k87 _ _<|ret<|kr81 _ _<|kr26 _ _<|kr20 _ _<|leave1 (P:=Tryz.prog) (fn:=Tryz.f26) (t:=4) (v:=.bool false) rfl rfl<|?_
    exact ⟨x,false,rfl,.inr ⟨rfl,s1_none h78 (by assumption),rfl⟩,(H17.pick [2,3,4,5] (by decide))⟩
   ·refine skip<|kn80 _ _<|?_
    refine sr fun Q88 k89=>qt mv<|qt (x_field (o:=0) T.fa71_1 rfl)<|qt (x_load1 T.na9 rfl (H17.ld 1 rfl 1 rfl))<|qt (x_nilCheck rfl)<|qt (x_field (o:=0) T.fa77_2 rfl)<|qt (x_field (o:=2) T.fa37_1 rfl)<|qt (x_field (o:=3) T.fa32_0 rfl)<|?_
    refine st_s<|Est (v:=.string t.s) H17 2 T.sz9 rfl rfl rfl rfl rfl rfl fun w90 H91=>nl<|k89 _ _<|?_
    refine sr fun Q92 k93=>qt mv<|qt (x_nilCheck rfl)<|qt (x_field (o:=0) T.fa77_1 rfl)<|?_
    refine st_s<|Est (v:=.int .i64 ((3:Nat):Int)) H91 2 T.sz75 rfl rfl rfl rfl rfl rfl fun w94 H95=>nl<|k93 _ _<|?_
    refine sr fun Q96 k97=>qt asg<|nl<|k97 _ _<|ret<|kr26 _ _<|kr20 _ _<|leave1 (P:=Tryz.prog) (fn:=Tryz.f26) (t:=4) (v:=.bool true) rfl rfl<|?_
    exact ⟨⟨x.rows,x.aq,x.cq,3,(⟨x.now.1.kind,t.s,x.now.1.args,x.now.1.left,x.now.1.right⟩,(x.now.2.1,x.now.2.2))⟩,true,rfl,.inl ⟨rfl,s1_name h78 (by assumption) rfl⟩,(RMem.mk' (by first | rfl | simp) (by first | rfl | simp) (H95.pick [2,3,4,5] (by decide)))⟩
  ·refine seqK fun Q98 kn99 kr100 ke101=>?_
   refine sr fun Q102 k103=>qt (x_eqlN (b:=2) rfl rfl)<|qt asg<|nl<|k103 _ _<|cnd (p:=x.at_=2) rfl (fun h104=>?_) (fun h104=>?_)
   ·refine skip<|kn99 _ _<|cndY (p:=x.at_=2) rfl (not_not_intro h104)<|seqK fun Q105 kn106 kr107 ke108=>blockK fun Q109 kn110 kr111 kx112 kb113=>?_
    refine sr fun Q114 k115=>qt (x_field (o:=0) T.fa71_0 rfl)<|qt (x_load1 T.na69 rfl (H17.ld 1 rfl 0 rfl))<|qt (x_eqlN (b:=8) rfl rfl)<|qt asg<|nl<|k115 _ _<|cnd (p:=t.k=8) rfl (fun h116=>?_) (fun h116=>?_)
    ·refine seqK fun Q117 kn118 kr119 ke120=>?_
     refine sr fun Q121 k122=>qt mv<|qt (x_nilCheck rfl)<|qt (x_field (o:=0) T.fa77_1 rfl)<|qt (x_load1 T.na75 rfl (H17.ld 2 rfl 1 rfl))<|qt (x_eqlN (b:=2) rfl rfl)<|nl<|k122 _ _<|cndY (p:=x.at_=2) rfl (not_not_intro h104)<|region<|qt mv<|qt (x_nilCheck rfl)<|qt (x_field (o:=0) T.fa77_2 rfl)<|qt (x_field (o:=2) T.fa37_0 rfl)<|?_
     refine st_s<|Est (v:=.int .i64 ((1:Nat):Int)) H17 2 T.sz33 rfl rfl rfl rfl rfl rfl fun w123 H124=>nl<|kn118 _ _<|?_
     refine sr fun Q125 k126=>qt mv<|qt (x_nilCheck rfl)<|qt (x_field (o:=0) T.fa77_1 rfl)<|?_
     refine st_s<|Est (v:=.int .i64 ((4:Nat):Int)) H124 2 T.sz75 rfl rfl rfl rfl rfl rfl fun w127 H128=>nl<|k126 _ _<|?_
     refine sr fun Q129 k130=>qt asg<|nl<|k130 _ _<|ret<|kr111 _ _<|kr107 _ _<|kr26 _ _<|kr20 _ _<|leave1 (P:=Tryz.prog) (fn:=Tryz.f26) (t:=4) (v:=.bool true) rfl rfl<|?_
     exact ⟨⟨x.rows,x.aq,x.cq,4,(⟨1,x.now.1.pred,x.now.1.args,x.now.1.left,x.now.1.right⟩,(x.now.2.1,x.now.2.2))⟩,true,rfl,.inl ⟨rfl,s2_open h104 (by omega) rfl⟩,(RMem.mk' (by first | rfl | simp) (by first | rfl | simp) (H128.pick [2,3,4,5] (by decide)))⟩
    ·refine sr fun Q131 k132=>qt (x_field (o:=0) T.fa71_0 rfl)<|qt (x_load1 T.na69 rfl (H17.ld 1 rfl 0 rfl))<|qt (x_eqlN (b:=14) rfl rfl)<|st_if (p:=t.k=14) (x_move rfl) (fun h133=>?_) (fun h133=>?_)
     ·refine st_gq 3 91 rfl rfl (by decide)<|qt mv<|st_gq 3 91 rfl rfl (by decide)<|qt (x_nilCheck rfl)<|st_gq 3 91 rfl rfl (by decide)<|qt (x_field (o:=0) T.fa77_1 rfl)<|st_gq 3 91 rfl rfl (by decide)<|qt (x_load1 T.na75 rfl (H17.ld 2 rfl 1 rfl))<|st_gq 3 91 rfl rfl (by decide)<|qt (x_eqlN (b:=2) rfl rfl)<|qt (pkT rfl)<|qt asg<|nl<|k132 _ _<|cndY (p:=x.at_=2) rfl (not_not_intro h104)<|?_
      refine sr fun Q134 k135=>qt mv<|qt mv<|qt (x_nilCheck rfl)<|qt (x_field (o:=0) T.fa77_2 rfl)<|qt (x_field (o:=2) T.fa37_1 rfl)<|qt (x_field (o:=3) T.fa32_0 rfl)<|qt (x_load1 T.na9 rfl (H17.ld 2 rfl 3 rfl))<|qt (v:=.agg #[.bool false,.string x.now.1.pred]) (x_build (fun _=>by kernel_rfl))<|qt (v:=.agg #[.int .i64 ((3:Nat):Int),.string ByteArray.empty,.slice none 0 0,.bool false,.string x.now.1.pred,.bool false,.string ByteArray.empty]) (x_build (fun _=>by kernel_rfl))<|qt (x_nilCheck rfl)<|qt (x_field (o:=0) T.fa77_2 rfl)<|?_
      refine st_s<|Est (v:=.agg #[.int .i64 ((3:Nat):Int),.string ByteArray.empty,.slice none 0 0,.bool false,.string x.now.1.pred,.bool false,.string ByteArray.empty]) H17 2 T.sz37 rfl rfl rfl rfl rfl rfl fun w136 H137=>nl<|k135 _ _<|?_
      refine sr fun Q138 k139=>qt mv<|qt (x_nilCheck rfl)<|qt (x_field (o:=0) T.fa77_1 rfl)<|?_
      refine st_s<|Est (v:=.int .i64 ((7:Nat):Int)) H137 2 T.sz75 rfl rfl rfl rfl rfl rfl fun w140 H141=>nl<|k139 _ _<|?_
      refine sr fun Q142 k143=>qt asg<|nl<|k143 _ _<|ret<|kr111 _ _<|kr107 _ _<|kr26 _ _<|kr20 _ _<|leave1 (P:=Tryz.prog) (fn:=Tryz.f26) (t:=4) (v:=.bool true) rfl rfl<|?_
      exact ⟨⟨x.rows,x.aq,x.cq,7,(⟨3,ByteArray.empty,[],(false,x.now.1.pred),Tm0⟩,(none,0))⟩,true,rfl,.inl ⟨rfl,s2_unl h104 (by omega) (by omega) rfl⟩,(RMem.mk' (by first | rfl | simp) (by first | rfl | simp) ((H141.nilQ 35 eT).pick [3,4,0,6] (by decide)))⟩
     ·refine st_gn 3 91 rfl rfl (by decide) rfl<|st_gn 3 91 rfl rfl (by decide) rfl<|st_gn 3 91 rfl rfl (by decide) rfl<|st_gn 3 91 rfl rfl (by decide) rfl<|st_gn 3 91 rfl rfl (by decide) rfl<|qt (pkF rfl)<|qt asg<|nl<|k132 _ _<|cndF rfl<|?_
      refine sr fun Q144 k145=>qt (x_field (o:=0) T.fa71_0 rfl)<|qt (x_load1 T.na69 rfl (H17.ld 1 rfl 0 rfl))<|qt (x_eqlN (b:=10) rfl rfl)<|st_if (p:=t.k=10) (x_move rfl) (fun h146=>?_) (fun h146=>?_)
      ·refine st_gq 3 116 rfl rfl (by decide)<|qt mv<|st_gq 3 116 rfl rfl (by decide)<|qt (x_nilCheck rfl)<|st_gq 3 116 rfl rfl (by decide)<|qt (x_field (o:=0) T.fa77_0 rfl)<|st_gq 3 116 rfl rfl (by decide)<|qt (x_load1 T.na23 rfl (H17.ld 2 rfl 0 rfl))<|st_gq 3 116 rfl rfl (by decide)<|qt (x_lenSl rfl Tryz.underlying23 rfl)<|st_gq 3 116 rfl rfl (by decide)<|qt (addN (b:=1) rfl rfl)<|st_gq 3 116 rfl rfl (by decide)<|qt (x_lssN (b:=256) rfl rfl)<|qt (pkT rfl)<|qt asg<|nl<|k145 _ _<|cnd (p:=(x.rows.length+1)<256) rfl (fun h147=>?_) (fun h147=>?_)
       ·refine sr fun Q148 k149=>qt mv<|?_
        have H153:Hp S w0 w16 ([cB bb 77 [.slice x.aq x.rows.length x.cq,.int .i64 ((x.at_:Nat):Int),.int .i64 x.now.1.kind,.string x.now.1.pred,.slice x.now.2.1 x.now.1.args.length x.now.2.2,.bool (decide (x.now.1.left.1=true)),.string x.now.1.left.2,.bool (decide (x.now.1.right.1=true)),.string x.now.1.right.2],cQ 37 eL x.aq x.rows.length x.cq x.rows,cQ 35 eT x.now.2.1 x.now.1.args.length x.now.2.2 x.now.1.args,cF x.rows.length fun k=>pL (el x.rows k)]++[cB b12 35 [.bool (decide (((termT t.k t.s).getD Tm0).1=true)),.string (((termT t.k t.s).getD Tm0).2)],cB b3 71 [.int .i64 ((t.k:Nat):Int),.string t.s,.int .i64 ((t.i:Nat):Int),.int .i64 ((t.j:Nat):Int)]]):=(H17.pick [2,3,4,5,0,1] (by decide))
        refine cl T.cf28 (ends28 _ bb x _ (RMem.mk' (by first | rfl | simp) (by first | rfl | simp) H153.startL) hr) rfl fun _ w154 ⟨x150,hx151,er,K152⟩=>⟨_,er,?_⟩
        have H155:=H153.callL K152
        refine nl<|k149 _ _<|?_
        refine sr fun Q156 k157=>qt mv<|qt (x_nilCheck rfl)<|qt (x_field (o:=0) T.fa77_1 rfl)<|?_
        refine st_s<|Est (v:=.int .i64 ((0:Nat):Int)) H155 0 T.sz75 rfl rfl rfl rfl rfl rfl fun w158 H159=>nl<|k157 _ _<|?_
        refine sr fun Q160 k161=>qt asg<|nl<|k161 _ _<|ret<|kr111 _ _<|kr107 _ _<|kr26 _ _<|kr20 _ _<|leave1 (P:=Tryz.prog) (fn:=Tryz.f26) (t:=4) (v:=.bool true) rfl rfl<|?_
        exact ⟨⟨x150.rows,x150.aq,x150.cq,0,(⟨x150.now.1.kind,x150.now.1.pred,x150.now.1.args,x150.now.1.left,x150.now.1.right⟩,(x150.now.2.1,x150.now.2.2))⟩,true,rfl,.inl ⟨rfl,s2_comma h104 (by omega) (by omega) (by omega) (by omega) hx151 rfl⟩,(RMem.mk' (by first | rfl | simp) (by first | rfl | simp) (H159.pick [0,1,2,3] (by decide)))⟩
       ·refine skip<|kn110 _ _<|kn106 _ _<|?_
        refine sr fun Q162 k163=>qt asg<|nl<|k163 _ _<|ret<|kr26 _ _<|kr20 _ _<|leave1 (P:=Tryz.prog) (fn:=Tryz.f26) (t:=4) (v:=.bool false) rfl rfl<|?_
        exact ⟨x,false,rfl,.inr ⟨rfl,s2_none h104 (by omega) (by omega) (by omega),rfl⟩,(H17.pick [2,3,4,5] (by decide))⟩
      ·refine st_gn 3 116 rfl rfl (by decide) rfl<|st_gn 3 116 rfl rfl (by decide) rfl<|st_gn 3 116 rfl rfl (by decide) rfl<|st_gn 3 116 rfl rfl (by decide) rfl<|st_gn 3 116 rfl rfl (by decide) rfl<|st_gn 3 116 rfl rfl (by decide) rfl<|st_gn 3 116 rfl rfl (by decide) rfl<|qt (pkF rfl)<|qt asg<|nl<|k145 _ _<|cndF rfl<|skip<|kn110 _ _<|kn106 _ _<|?_
       refine sr fun Q164 k165=>qt asg<|nl<|k165 _ _<|ret<|kr26 _ _<|kr20 _ _<|leave1 (P:=Tryz.prog) (fn:=Tryz.f26) (t:=4) (v:=.bool false) rfl rfl<|?_
       exact ⟨x,false,rfl,.inr ⟨rfl,s2_none h104 (by omega) (by omega) (by omega),rfl⟩,(H17.pick [2,3,4,5] (by decide))⟩
   ·refine region<|qt (x_eqlN (b:=3) rfl rfl)<|qt asg<|nl<|kn99 _ _<|cnd (p:=x.at_=3) rfl (fun h166=>?_) (fun h166=>?_)
    ·refine seqK fun Q167 kn168 kr169 ke170=>blockK fun Q171 kn172 kr173 kx174 kb175=>?_
     refine sr fun Q176 k177=>qt (x_field (o:=0) T.fa71_0 rfl)<|qt (x_load1 T.na69 rfl (H17.ld 1 rfl 0 rfl))<|qt (x_eqlN (b:=8) rfl rfl)<|qt asg<|nl<|k177 _ _<|cnd (p:=t.k=8) rfl (fun h178=>?_) (fun h178=>?_)
     ·refine seqK fun Q179 kn180 kr181 ke182=>?_
      refine sr fun Q183 k184=>qt mv<|qt (x_nilCheck rfl)<|qt (x_field (o:=0) T.fa77_1 rfl)<|qt (x_load1 T.na75 rfl (H17.ld 2 rfl 1 rfl))<|qt (x_eqlN (b:=2) rfl rfl)<|nl<|k184 _ _<|cndN (p:=x.at_=2) rfl (h104)<|skip<|kn180 _ _<|?_
      refine sr fun Q185 k186=>qt mv<|qt (x_nilCheck rfl)<|qt (x_field (o:=0) T.fa77_1 rfl)<|?_
      refine st_s<|Est (v:=.int .i64 ((4:Nat):Int)) H17 2 T.sz75 rfl rfl rfl rfl rfl rfl fun w187 H188=>nl<|k186 _ _<|?_
      refine sr fun Q189 k190=>qt asg<|nl<|k190 _ _<|ret<|kr173 _ _<|kr169 _ _<|kr26 _ _<|kr20 _ _<|leave1 (P:=Tryz.prog) (fn:=Tryz.f26) (t:=4) (v:=.bool true) rfl rfl<|?_
      exact ⟨⟨x.rows,x.aq,x.cq,4,(⟨x.now.1.kind,x.now.1.pred,x.now.1.args,x.now.1.left,x.now.1.right⟩,(x.now.2.1,x.now.2.2))⟩,true,rfl,.inl ⟨rfl,s3_open h166 (by omega) rfl⟩,(RMem.mk' (by first | rfl | simp) (by first | rfl | simp) (H188.pick [2,3,4,5] (by decide)))⟩
     ·refine sr fun Q191 k192=>qt (x_field (o:=0) T.fa71_0 rfl)<|qt (x_load1 T.na69 rfl (H17.ld 1 rfl 0 rfl))<|qt (x_eqlN (b:=14) rfl rfl)<|st_if (p:=t.k=14) (x_move rfl) (fun h193=>?_) (fun h193=>?_)
      ·refine st_gq 3 91 rfl rfl (by decide)<|qt mv<|st_gq 3 91 rfl rfl (by decide)<|qt (x_nilCheck rfl)<|st_gq 3 91 rfl rfl (by decide)<|qt (x_field (o:=0) T.fa77_1 rfl)<|st_gq 3 91 rfl rfl (by decide)<|qt (x_load1 T.na75 rfl (H17.ld 2 rfl 1 rfl))<|st_gq 3 91 rfl rfl (by decide)<|qt (x_eqlN (b:=2) rfl rfl)<|qt (pkT rfl)<|qt asg<|nl<|k192 _ _<|cndN (p:=x.at_=2) rfl (h104)<|?_
       refine sr fun Q194 k195=>qt (x_field (o:=0) T.fa71_0 rfl)<|qt (x_load1 T.na69 rfl (H17.ld 1 rfl 0 rfl))<|qt (x_eqlN (b:=10) rfl rfl)<|st_if (p:=t.k=10) (x_move rfl) (fun h196=>?_) (fun h196=>?_)
       ·refine st_gq 3 116 rfl rfl (by decide)<|qt mv<|st_gq 3 116 rfl rfl (by decide)<|qt (x_nilCheck rfl)<|st_gq 3 116 rfl rfl (by decide)<|qt (x_field (o:=0) T.fa77_0 rfl)<|st_gq 3 116 rfl rfl (by decide)<|qt (x_load1 T.na23 rfl (H17.ld 2 rfl 0 rfl))<|st_gq 3 116 rfl rfl (by decide)<|qt (x_lenSl rfl Tryz.underlying23 rfl)<|st_gq 3 116 rfl rfl (by decide)<|qt (addN (b:=1) rfl rfl)<|st_gq 3 116 rfl rfl (by decide)<|qt (x_lssN (b:=256) rfl rfl)<|qt (pkT rfl)<|qt asg<|nl<|k195 _ _<|cnd (p:=(x.rows.length+1)<256) rfl (fun h197=>?_) (fun h197=>?_)
        ·refine sr fun Q198 k199=>qt mv<|?_
         have H203:Hp S w0 w16 ([cB bb 77 [.slice x.aq x.rows.length x.cq,.int .i64 ((x.at_:Nat):Int),.int .i64 x.now.1.kind,.string x.now.1.pred,.slice x.now.2.1 x.now.1.args.length x.now.2.2,.bool (decide (x.now.1.left.1=true)),.string x.now.1.left.2,.bool (decide (x.now.1.right.1=true)),.string x.now.1.right.2],cQ 37 eL x.aq x.rows.length x.cq x.rows,cQ 35 eT x.now.2.1 x.now.1.args.length x.now.2.2 x.now.1.args,cF x.rows.length fun k=>pL (el x.rows k)]++[cB b12 35 [.bool (decide (((termT t.k t.s).getD Tm0).1=true)),.string (((termT t.k t.s).getD Tm0).2)],cB b3 71 [.int .i64 ((t.k:Nat):Int),.string t.s,.int .i64 ((t.i:Nat):Int),.int .i64 ((t.j:Nat):Int)]]):=(H17.pick [2,3,4,5,0,1] (by decide))
         refine cl T.cf28 (ends28 _ bb x _ (RMem.mk' (by first | rfl | simp) (by first | rfl | simp) H203.startL) hr) rfl fun _ w204 ⟨x200,hx201,er,K202⟩=>⟨_,er,?_⟩
         have H205:=H203.callL K202
         refine nl<|k199 _ _<|?_
         refine sr fun Q206 k207=>qt mv<|qt (x_nilCheck rfl)<|qt (x_field (o:=0) T.fa77_1 rfl)<|?_
         refine st_s<|Est (v:=.int .i64 ((0:Nat):Int)) H205 0 T.sz75 rfl rfl rfl rfl rfl rfl fun w208 H209=>nl<|k207 _ _<|?_
         refine sr fun Q210 k211=>qt asg<|nl<|k211 _ _<|ret<|kr173 _ _<|kr169 _ _<|kr26 _ _<|kr20 _ _<|leave1 (P:=Tryz.prog) (fn:=Tryz.f26) (t:=4) (v:=.bool true) rfl rfl<|?_
         exact ⟨⟨x200.rows,x200.aq,x200.cq,0,(⟨x200.now.1.kind,x200.now.1.pred,x200.now.1.args,x200.now.1.left,x200.now.1.right⟩,(x200.now.2.1,x200.now.2.2))⟩,true,rfl,.inl ⟨rfl,s3_comma h166 (by omega) (by omega) (by omega) hx201 rfl⟩,(RMem.mk' (by first | rfl | simp) (by first | rfl | simp) (H209.pick [0,1,2,3] (by decide)))⟩
        ·refine skip<|kn172 _ _<|kn168 _ _<|?_
         refine sr fun Q212 k213=>qt asg<|nl<|k213 _ _<|ret<|kr26 _ _<|kr20 _ _<|leave1 (P:=Tryz.prog) (fn:=Tryz.f26) (t:=4) (v:=.bool false) rfl rfl<|?_
         exact ⟨x,false,rfl,.inr ⟨rfl,s3_none h166 (by omega) (by omega),rfl⟩,(H17.pick [2,3,4,5] (by decide))⟩
       ·refine st_gn 3 116 rfl rfl (by decide) rfl<|st_gn 3 116 rfl rfl (by decide) rfl<|st_gn 3 116 rfl rfl (by decide) rfl<|st_gn 3 116 rfl rfl (by decide) rfl<|st_gn 3 116 rfl rfl (by decide) rfl<|st_gn 3 116 rfl rfl (by decide) rfl<|st_gn 3 116 rfl rfl (by decide) rfl<|qt (pkF rfl)<|qt asg<|nl<|k195 _ _<|cndF rfl<|skip<|kn172 _ _<|kn168 _ _<|?_
        refine sr fun Q214 k215=>qt asg<|nl<|k215 _ _<|ret<|kr26 _ _<|kr20 _ _<|leave1 (P:=Tryz.prog) (fn:=Tryz.f26) (t:=4) (v:=.bool false) rfl rfl<|?_
        exact ⟨x,false,rfl,.inr ⟨rfl,s3_none h166 (by omega) (by omega),rfl⟩,(H17.pick [2,3,4,5] (by decide))⟩
      ·refine st_gn 3 91 rfl rfl (by decide) rfl<|st_gn 3 91 rfl rfl (by decide) rfl<|st_gn 3 91 rfl rfl (by decide) rfl<|st_gn 3 91 rfl rfl (by decide) rfl<|st_gn 3 91 rfl rfl (by decide) rfl<|qt (pkF rfl)<|qt asg<|nl<|k192 _ _<|cndF rfl<|?_
       refine sr fun Q216 k217=>qt (x_field (o:=0) T.fa71_0 rfl)<|qt (x_load1 T.na69 rfl (H17.ld 1 rfl 0 rfl))<|qt (x_eqlN (b:=10) rfl rfl)<|st_if (p:=t.k=10) (x_move rfl) (fun h218=>?_) (fun h218=>?_)
       ·refine st_gq 3 116 rfl rfl (by decide)<|qt mv<|st_gq 3 116 rfl rfl (by decide)<|qt (x_nilCheck rfl)<|st_gq 3 116 rfl rfl (by decide)<|qt (x_field (o:=0) T.fa77_0 rfl)<|st_gq 3 116 rfl rfl (by decide)<|qt (x_load1 T.na23 rfl (H17.ld 2 rfl 0 rfl))<|st_gq 3 116 rfl rfl (by decide)<|qt (x_lenSl rfl Tryz.underlying23 rfl)<|st_gq 3 116 rfl rfl (by decide)<|qt (addN (b:=1) rfl rfl)<|st_gq 3 116 rfl rfl (by decide)<|qt (x_lssN (b:=256) rfl rfl)<|qt (pkT rfl)<|qt asg<|nl<|k217 _ _<|cnd (p:=(x.rows.length+1)<256) rfl (fun h219=>?_) (fun h219=>?_)
        ·refine sr fun Q220 k221=>qt mv<|?_
         have H225:Hp S w0 w16 ([cB bb 77 [.slice x.aq x.rows.length x.cq,.int .i64 ((x.at_:Nat):Int),.int .i64 x.now.1.kind,.string x.now.1.pred,.slice x.now.2.1 x.now.1.args.length x.now.2.2,.bool (decide (x.now.1.left.1=true)),.string x.now.1.left.2,.bool (decide (x.now.1.right.1=true)),.string x.now.1.right.2],cQ 37 eL x.aq x.rows.length x.cq x.rows,cQ 35 eT x.now.2.1 x.now.1.args.length x.now.2.2 x.now.1.args,cF x.rows.length fun k=>pL (el x.rows k)]++[cB b12 35 [.bool (decide (((termT t.k t.s).getD Tm0).1=true)),.string (((termT t.k t.s).getD Tm0).2)],cB b3 71 [.int .i64 ((t.k:Nat):Int),.string t.s,.int .i64 ((t.i:Nat):Int),.int .i64 ((t.j:Nat):Int)]]):=(H17.pick [2,3,4,5,0,1] (by decide))
         refine cl T.cf28 (ends28 _ bb x _ (RMem.mk' (by first | rfl | simp) (by first | rfl | simp) H225.startL) hr) rfl fun _ w226 ⟨x222,hx223,er,K224⟩=>⟨_,er,?_⟩
         have H227:=H225.callL K224
         refine nl<|k221 _ _<|?_
         refine sr fun Q228 k229=>qt mv<|qt (x_nilCheck rfl)<|qt (x_field (o:=0) T.fa77_1 rfl)<|?_
         refine st_s<|Est (v:=.int .i64 ((0:Nat):Int)) H227 0 T.sz75 rfl rfl rfl rfl rfl rfl fun w230 H231=>nl<|k229 _ _<|?_
         refine sr fun Q232 k233=>qt asg<|nl<|k233 _ _<|ret<|kr173 _ _<|kr169 _ _<|kr26 _ _<|kr20 _ _<|leave1 (P:=Tryz.prog) (fn:=Tryz.f26) (t:=4) (v:=.bool true) rfl rfl<|?_
         exact ⟨⟨x222.rows,x222.aq,x222.cq,0,(⟨x222.now.1.kind,x222.now.1.pred,x222.now.1.args,x222.now.1.left,x222.now.1.right⟩,(x222.now.2.1,x222.now.2.2))⟩,true,rfl,.inl ⟨rfl,s3_comma h166 (by omega) (by omega) (by omega) hx223 rfl⟩,(RMem.mk' (by first | rfl | simp) (by first | rfl | simp) (H231.pick [0,1,2,3] (by decide)))⟩
        ·refine skip<|kn172 _ _<|kn168 _ _<|?_
         refine sr fun Q234 k235=>qt asg<|nl<|k235 _ _<|ret<|kr26 _ _<|kr20 _ _<|leave1 (P:=Tryz.prog) (fn:=Tryz.f26) (t:=4) (v:=.bool false) rfl rfl<|?_
         exact ⟨x,false,rfl,.inr ⟨rfl,s3_none h166 (by omega) (by omega),rfl⟩,(H17.pick [2,3,4,5] (by decide))⟩
       ·refine st_gn 3 116 rfl rfl (by decide) rfl<|st_gn 3 116 rfl rfl (by decide) rfl<|st_gn 3 116 rfl rfl (by decide) rfl<|st_gn 3 116 rfl rfl (by decide) rfl<|st_gn 3 116 rfl rfl (by decide) rfl<|st_gn 3 116 rfl rfl (by decide) rfl<|st_gn 3 116 rfl rfl (by decide) rfl<|qt (pkF rfl)<|qt asg<|nl<|k217 _ _<|cndF rfl<|skip<|kn172 _ _<|kn168 _ _<|?_
        refine sr fun Q236 k237=>qt asg<|nl<|k237 _ _<|ret<|kr26 _ _<|kr20 _ _<|leave1 (P:=Tryz.prog) (fn:=Tryz.f26) (t:=4) (v:=.bool false) rfl rfl<|?_
        exact ⟨x,false,rfl,.inr ⟨rfl,s3_none h166 (by omega) (by omega),rfl⟩,(H17.pick [2,3,4,5] (by decide))⟩
    ·refine sr fun Q238 k239=>qt (x_eqlN (b:=4) rfl rfl)<|qt asg<|nl<|k239 _ _<|cnd (p:=x.at_=4) rfl (fun h240=>?_) (fun h240=>?_)
     ·refine seqK fun Q241 kn242 kr243 ke244=>?_
      refine sr fun Q245 k246=>qt mv<|qt (x_notBB rfl)<|nl<|k246 _ _<|cnd (p:=¬ ((termT t.k t.s).isSome=true)) rfl (fun h247=>?_) (fun h247=>?_)
      ·refine sr fun Q248 k249=>qt asg<|nl<|k249 _ _<|ret<|kr243 _ _<|kr26 _ _<|kr20 _ _<|leave1 (P:=Tryz.prog) (fn:=Tryz.f26) (t:=4) (v:=.bool false) rfl rfl<|?_
       exact ⟨x,false,rfl,.inr ⟨rfl,s4_none h240 (by first | assumption | exact Bool.eq_false_iff.2 (by assumption)),rfl⟩,(H17.pick [2,3,4,5] (by decide))⟩
      ·refine skip<|kn242 _ _<|seqK fun Q250 kn251 kr252 ke253=>regionD1 [6,7] [0,1,2,3,4,5,6,7,10,11,12,13] (.one 0 (.one 1 (.one 2 (.one 3 (.one 4 (.one 5 (.one 6 (.one 7 (.one 8 (.one 9 (.one 10 (.one 11 (.one 12 (.one 13 (.one 14 .done))))))))))))))) (by kernel_rfl) (by kernel_rfl) fun w254 x255 s256=>?_
       have H257:=H17.ext x255
       have S258:Ext w254 w254:=Below.refl _ _
       refine d_q rfl rfl (fun _=>mv)<|d_q rfl rfl (fun _=>mv)<|d_q rfl rfl (fun _=>x_nilCheck rfl)<|d_q rfl rfl (fun _=>x_field (o:=0) T.fa77_2 rfl)<|d_q rfl rfl (fun _=>x_field (o:=2) T.fa37_1 rfl)<|d_q rfl rfl (fun _=>x_field (o:=3) T.fa32_1 rfl)<|d_l rfl rfl rfl (fun _ y259=>x_load1 T.na30 rfl ((H257.ld 2 rfl 4 rfl).ext y259))<|d_l rfl rfl rfl (fun _ y260=>x_loadA [.bool (decide (((termT t.k t.s).getD Tm0).1=true)),.string (((termT t.k t.s).getD Tm0).2)] T.ag35 rfl ((H257.lds 0 rfl 0 [.bool (decide (((termT t.k t.s).getD Tm0).1=true)),.string (((termT t.k t.s).getD Tm0).2)] rfl).ext y260))<|d_e (by decide)<|d_e' rfl rfl<|Ebs (cs:=[.bool (decide (((termT t.k t.s).getD Tm0).1=true)),.string (((termT t.k t.s).getD Tm0).2)]) (e:=35) H257 (fun _=>by kernel_rfl) fun b261 w262 H263 x264=>?_
       have S265:=S258.trans (x264.mono S258.size)
       refine ⟨fun _=>S265,?_⟩
       refine d_e (by decide)<|d_e' rfl rfl<|EapQ H263 5 T.sl30 rfl rfl rfl (H263.lst (E:=eT) 0 rfl ((termT t.k t.s).getD Tm0) rfl) (by omega) rfl rfl fun a266 c267 w268 H269=>⟨need_no (by kernel_rfl),?_⟩
       refine d_q rfl rfl (fun _=>x_nilCheck rfl)<|d_q rfl rfl (fun _=>x_field (o:=0) T.fa77_2 rfl)<|d_q rfl rfl (fun _=>x_field (o:=2) T.fa37_1 rfl)<|d_q rfl rfl (fun _=>x_field (o:=3) T.fa32_1 rfl)<|d_e (by decide)<|d_s' rfl rfl<|Est (v:=.slice a266 (x.now.1.args.length+1) c267) H269 3 T.sz30 rfl rfl rfl rfl rfl rfl fun w270 H271=>⟨need_no (by kernel_rfl),?_⟩
       refine d_done<|kn251 _ _<|?_
       refine sr fun Q272 k273=>qt mv<|qt (x_nilCheck rfl)<|qt (x_field (o:=0) T.fa77_1 rfl)<|?_
       refine st_s<|Est (v:=.int .i64 ((5:Nat):Int)) H271 3 T.sz75 rfl rfl rfl rfl rfl rfl fun w274 H275=>nl<|k273 _ _<|?_
       refine sr fun Q276 k277=>qt asg<|nl<|k277 _ _<|ret<|kr26 _ _<|kr20 _ _<|leave1 (P:=Tryz.prog) (fn:=Tryz.f26) (t:=4) (v:=.bool true) rfl rfl<|?_
       exact ⟨⟨x.rows,x.aq,x.cq,5,(⟨x.now.1.kind,x.now.1.pred,(x.now.1.args++[((termT t.k t.s).getD Tm0)]),x.now.1.left,x.now.1.right⟩,(a266,c267))⟩,true,rfl,.inl ⟨rfl,s4_term h240 (by first | assumption | exact Decidable.of_not_not (by assumption)) rfl⟩,(RMem.mk' (by first | rfl | simp) (by first | rfl | simp) (H275.pick [3,4,5,6] (by decide)))⟩
     ·refine sr fun Q278 k279=>qt (x_eqlN (b:=5) rfl rfl)<|qt asg<|nl<|k279 _ _<|cnd (p:=x.at_=5) rfl (fun h280=>?_) (fun h280=>?_)
      ·refine seqK fun Q281 kn282 kr283 ke284=>blockK fun Q285 kn286 kr287 kx288 kb289=>?_
       refine sr fun Q290 k291=>qt (x_field (o:=0) T.fa71_0 rfl)<|qt (x_load1 T.na69 rfl (H17.ld 1 rfl 0 rfl))<|qt (x_eqlN (b:=10) rfl rfl)<|st_if (p:=t.k=10) (x_move rfl) (fun h292=>?_) (fun h292=>?_)
       ·refine st_gq 3 157 rfl rfl (by decide)<|qt mv<|st_gq 3 157 rfl rfl (by decide)<|qt (x_nilCheck rfl)<|st_gq 3 157 rfl rfl (by decide)<|qt (x_field (o:=0) T.fa77_2 rfl)<|st_gq 3 157 rfl rfl (by decide)<|qt (x_field (o:=2) T.fa37_1 rfl)<|st_gq 3 157 rfl rfl (by decide)<|qt (x_field (o:=3) T.fa32_1 rfl)<|st_gq 3 157 rfl rfl (by decide)<|qt (x_load1 T.na30 rfl (H17.ld 2 rfl 4 rfl))<|st_gq 3 157 rfl rfl (by decide)<|qt (x_lenSl rfl Tryz.underlying30 rfl)<|st_gq 3 157 rfl rfl (by decide)<|qt (x_lssN (b:=16) rfl rfl)<|qt (pkT rfl)<|qt asg<|nl<|k291 _ _<|cnd (p:=x.now.1.args.length<16) rfl (fun h293=>?_) (fun h293=>?_)
        ·refine region<|qt mv<|qt (x_nilCheck rfl)<|qt (x_field (o:=0) T.fa77_1 rfl)<|?_
         refine st_s<|Est (v:=.int .i64 ((4:Nat):Int)) H17 2 T.sz75 rfl rfl rfl rfl rfl rfl fun w294 H295=>nl<|kn286 _ _<|kn282 _ _<|?_
         refine sr fun Q296 k297=>qt asg<|nl<|k297 _ _<|ret<|kr26 _ _<|kr20 _ _<|leave1 (P:=Tryz.prog) (fn:=Tryz.f26) (t:=4) (v:=.bool true) rfl rfl<|?_
         exact ⟨⟨x.rows,x.aq,x.cq,4,(⟨x.now.1.kind,x.now.1.pred,x.now.1.args,x.now.1.left,x.now.1.right⟩,(x.now.2.1,x.now.2.2))⟩,true,rfl,.inl ⟨rfl,s5_comma h280 (by omega) (by omega) rfl⟩,(RMem.mk' (by first | rfl | simp) (by first | rfl | simp) (H295.pick [2,3,4,5] (by decide)))⟩
        ·refine sr fun Q298 k299=>qt (x_field (o:=0) T.fa71_0 rfl)<|qt (x_load1 T.na69 rfl (H17.ld 1 rfl 0 rfl))<|qt (x_eqlN (b:=9) rfl rfl)<|qt asg<|nl<|k299 _ _<|cnd (p:=t.k=9) rfl (fun h300=>?_) (fun h300=>?_)
         ·refine region<|qt mv<|?_
          have H304:Hp S w0 w16 ([cB bb 77 [.slice x.aq x.rows.length x.cq,.int .i64 ((x.at_:Nat):Int),.int .i64 x.now.1.kind,.string x.now.1.pred,.slice x.now.2.1 x.now.1.args.length x.now.2.2,.bool (decide (x.now.1.left.1=true)),.string x.now.1.left.2,.bool (decide (x.now.1.right.1=true)),.string x.now.1.right.2],cQ 37 eL x.aq x.rows.length x.cq x.rows,cQ 35 eT x.now.2.1 x.now.1.args.length x.now.2.2 x.now.1.args,cF x.rows.length fun k=>pL (el x.rows k)]++[cB b12 35 [.bool (decide (((termT t.k t.s).getD Tm0).1=true)),.string (((termT t.k t.s).getD Tm0).2)],cB b3 71 [.int .i64 ((t.k:Nat):Int),.string t.s,.int .i64 ((t.i:Nat):Int),.int .i64 ((t.j:Nat):Int)]]):=(H17.pick [2,3,4,5,0,1] (by decide))
          refine cl T.cf68 (done68 _ bb x _ (RMem.mk' (by first | rfl | simp) (by first | rfl | simp) H304.startL) hr) rfl fun _ w305 ⟨x301,hx302,er,K303⟩=>⟨_,er,?_⟩
          have H306:=H304.callL K303
          refine nl<|kn286 _ _<|kn282 _ _<|?_
          refine sr fun Q307 k308=>qt asg<|nl<|k308 _ _<|ret<|kr26 _ _<|kr20 _ _<|leave1 (P:=Tryz.prog) (fn:=Tryz.f26) (t:=4) (v:=.bool true) rfl rfl<|?_
          exact ⟨x301,true,rfl,.inl ⟨rfl,s5_close h280 (by omega) hx302⟩,(H306.pick [0,1,2,3] (by decide))⟩
         ·refine sr fun Q309 k310=>qt asg<|nl<|k310 _ _<|ret<|kr287 _ _<|kr283 _ _<|kr26 _ _<|kr20 _ _<|leave1 (P:=Tryz.prog) (fn:=Tryz.f26) (t:=4) (v:=.bool false) rfl rfl<|?_
          exact ⟨x,false,rfl,.inr ⟨rfl,s5_none h280 (by omega) (by omega),rfl⟩,(H17.pick [2,3,4,5] (by decide))⟩
       ·refine st_gn 3 157 rfl rfl (by decide) rfl<|st_gn 3 157 rfl rfl (by decide) rfl<|st_gn 3 157 rfl rfl (by decide) rfl<|st_gn 3 157 rfl rfl (by decide) rfl<|st_gn 3 157 rfl rfl (by decide) rfl<|st_gn 3 157 rfl rfl (by decide) rfl<|st_gn 3 157 rfl rfl (by decide) rfl<|st_gn 3 157 rfl rfl (by decide) rfl<|qt (pkF rfl)<|qt asg<|nl<|k291 _ _<|cndF rfl<|?_
        refine sr fun Q311 k312=>qt (x_field (o:=0) T.fa71_0 rfl)<|qt (x_load1 T.na69 rfl (H17.ld 1 rfl 0 rfl))<|qt (x_eqlN (b:=9) rfl rfl)<|qt asg<|nl<|k312 _ _<|cnd (p:=t.k=9) rfl (fun h313=>?_) (fun h313=>?_)
        ·refine region<|qt mv<|?_
         have H317:Hp S w0 w16 ([cB bb 77 [.slice x.aq x.rows.length x.cq,.int .i64 ((x.at_:Nat):Int),.int .i64 x.now.1.kind,.string x.now.1.pred,.slice x.now.2.1 x.now.1.args.length x.now.2.2,.bool (decide (x.now.1.left.1=true)),.string x.now.1.left.2,.bool (decide (x.now.1.right.1=true)),.string x.now.1.right.2],cQ 37 eL x.aq x.rows.length x.cq x.rows,cQ 35 eT x.now.2.1 x.now.1.args.length x.now.2.2 x.now.1.args,cF x.rows.length fun k=>pL (el x.rows k)]++[cB b12 35 [.bool (decide (((termT t.k t.s).getD Tm0).1=true)),.string (((termT t.k t.s).getD Tm0).2)],cB b3 71 [.int .i64 ((t.k:Nat):Int),.string t.s,.int .i64 ((t.i:Nat):Int),.int .i64 ((t.j:Nat):Int)]]):=(H17.pick [2,3,4,5,0,1] (by decide))
         refine cl T.cf68 (done68 _ bb x _ (RMem.mk' (by first | rfl | simp) (by first | rfl | simp) H317.startL) hr) rfl fun _ w318 ⟨x314,hx315,er,K316⟩=>⟨_,er,?_⟩
         have H319:=H317.callL K316
         refine nl<|kn286 _ _<|kn282 _ _<|?_
         refine sr fun Q320 k321=>qt asg<|nl<|k321 _ _<|ret<|kr26 _ _<|kr20 _ _<|leave1 (P:=Tryz.prog) (fn:=Tryz.f26) (t:=4) (v:=.bool true) rfl rfl<|?_
         exact ⟨x314,true,rfl,.inl ⟨rfl,s5_close h280 (by omega) hx315⟩,(H319.pick [0,1,2,3] (by decide))⟩
        ·refine sr fun Q322 k323=>qt asg<|nl<|k323 _ _<|ret<|kr287 _ _<|kr283 _ _<|kr26 _ _<|kr20 _ _<|leave1 (P:=Tryz.prog) (fn:=Tryz.f26) (t:=4) (v:=.bool false) rfl rfl<|?_
         exact ⟨x,false,rfl,.inr ⟨rfl,s5_none h280 (by omega) (by omega),rfl⟩,(H17.pick [2,3,4,5] (by decide))⟩
      ·refine sr fun Q324 k325=>qt (x_eqlN (b:=6) rfl rfl)<|qt asg<|nl<|k325 _ _<|cnd (p:=x.at_=6) rfl (fun h326=>?_) (fun h326=>?_)
       ·refine seqK fun Q327 kn328 kr329 ke330=>?_
        refine sr fun Q331 k332=>qt (x_field (o:=0) T.fa71_0 rfl)<|qt (x_load1 T.na69 rfl (H17.ld 1 rfl 0 rfl))<|qt (x_neqN (b:=14) rfl rfl)<|nl<|k332 _ _<|cnd (p:=t.k≠14) rfl (fun h333=>?_) (fun h333=>?_)
        ·refine sr fun Q334 k335=>qt asg<|nl<|k335 _ _<|ret<|kr329 _ _<|kr26 _ _<|kr20 _ _<|leave1 (P:=Tryz.prog) (fn:=Tryz.f26) (t:=4) (v:=.bool false) rfl rfl<|?_
         exact ⟨x,false,rfl,.inr ⟨rfl,s6_none h326 (by assumption),rfl⟩,(H17.pick [2,3,4,5] (by decide))⟩
        ·refine skip<|kn328 _ _<|?_
         refine sr fun Q336 k337=>qt mv<|qt (x_nilCheck rfl)<|qt (x_field (o:=0) T.fa77_1 rfl)<|?_
         refine st_s<|Est (v:=.int .i64 ((7:Nat):Int)) H17 2 T.sz75 rfl rfl rfl rfl rfl rfl fun w338 H339=>nl<|k337 _ _<|?_
         refine sr fun Q340 k341=>qt asg<|nl<|k341 _ _<|ret<|kr26 _ _<|kr20 _ _<|leave1 (P:=Tryz.prog) (fn:=Tryz.f26) (t:=4) (v:=.bool true) rfl rfl<|?_
         exact ⟨⟨x.rows,x.aq,x.cq,7,(⟨x.now.1.kind,x.now.1.pred,x.now.1.args,x.now.1.left,x.now.1.right⟩,(x.now.2.1,x.now.2.2))⟩,true,rfl,.inl ⟨rfl,s6_unl h326 (by assumption) rfl⟩,(RMem.mk' (by first | rfl | simp) (by first | rfl | simp) (H339.pick [2,3,4,5] (by decide)))⟩
       ·refine sr fun Q342 k343=>qt (x_eqlN (b:=7) rfl rfl)<|qt asg<|nl<|k343 _ _<|cnd (p:=x.at_=7) rfl (fun h344=>?_) (fun h344=>?_)
        ·refine seqK fun Q345 kn346 kr347 ke348=>?_
         refine sr fun Q349 k350=>qt mv<|qt (x_notBB rfl)<|nl<|k350 _ _<|cnd (p:=¬ ((termT t.k t.s).isSome=true)) rfl (fun h351=>?_) (fun h351=>?_)
         ·refine sr fun Q352 k353=>qt asg<|nl<|k353 _ _<|ret<|kr347 _ _<|kr26 _ _<|kr20 _ _<|leave1 (P:=Tryz.prog) (fn:=Tryz.f26) (t:=4) (v:=.bool false) rfl rfl<|?_
          exact ⟨x,false,rfl,.inr ⟨rfl,s7_none h344 (by first | assumption | exact Bool.eq_false_iff.2 (by assumption)),rfl⟩,(H17.pick [2,3,4,5] (by decide))⟩
         ·refine skip<|kn346 _ _<|?_
          refine sr fun Q354 k355=>qt mv<|qt (x_loadA [.bool (decide (((termT t.k t.s).getD Tm0).1=true)),.string (((termT t.k t.s).getD Tm0).2)] T.ag35 rfl (H17.lds 0 rfl 0 [.bool (decide (((termT t.k t.s).getD Tm0).1=true)),.string (((termT t.k t.s).getD Tm0).2)] rfl))<|qt (x_nilCheck rfl)<|qt (x_field (o:=0) T.fa77_2 rfl)<|qt (x_field (o:=2) T.fa37_3 rfl)<|?_
          refine st_s<|Est (v:=.agg #[.bool (decide (((termT t.k t.s).getD Tm0).1=true)),.string (((termT t.k t.s).getD Tm0).2)]) H17 2 T.sz35 rfl rfl rfl rfl rfl rfl fun w356 H357=>nl<|k355 _ _<|?_
          refine sr fun Q358 k359=>qt mv<|?_
          have H363:Hp S w0 w356 ([cB bb 77 [.slice x.aq x.rows.length x.cq,.int .i64 ((x.at_:Nat):Int),.int .i64 x.now.1.kind,.string x.now.1.pred,.slice x.now.2.1 x.now.1.args.length x.now.2.2,.bool (decide (x.now.1.left.1=true)),.string x.now.1.left.2,.bool (decide (((termT t.k t.s).getD Tm0).1=true)),.string (((termT t.k t.s).getD Tm0).2)],cQ 37 eL x.aq x.rows.length x.cq x.rows,cQ 35 eT x.now.2.1 x.now.1.args.length x.now.2.2 x.now.1.args,cF x.rows.length fun k=>pL (el x.rows k)]++[cB b12 35 [.bool (decide (((termT t.k t.s).getD Tm0).1=true)),.string (((termT t.k t.s).getD Tm0).2)],cB b3 71 [.int .i64 ((t.k:Nat):Int),.string t.s,.int .i64 ((t.i:Nat):Int),.int .i64 ((t.j:Nat):Int)]]):=(H357.pick [2,3,4,5,0,1] (by decide))
          refine cl T.cf68 (done68 _ bb ⟨x.rows,x.aq,x.cq,x.at_,(⟨x.now.1.kind,x.now.1.pred,x.now.1.args,x.now.1.left,((termT t.k t.s).getD Tm0)⟩,(x.now.2.1,x.now.2.2))⟩ _ (RMem.mk' (by first | rfl | simp) (by first | rfl | simp) H363.startL) hr) rfl fun _ w364 ⟨x360,hx361,er,K362⟩=>⟨_,er,?_⟩
          have H365:=H363.callL K362
          refine nl<|k359 _ _<|?_
          refine sr fun Q366 k367=>qt asg<|nl<|k367 _ _<|ret<|kr26 _ _<|kr20 _ _<|leave1 (P:=Tryz.prog) (fn:=Tryz.f26) (t:=4) (v:=.bool true) rfl rfl<|?_
          exact ⟨x360,true,rfl,.inl ⟨rfl,s7_term h344 (by first | assumption | exact Decidable.of_not_not (by assumption)) hx361⟩,(H365.pick [0,1,2,3] (by decide))⟩
        ·refine skip<|kn25 _ _<|kn19 _ _<|seqK fun Q368 kn369 kr370 ke371=>?_
         refine sr fun Q372 k373=>qt (x_field (o:=0) T.fa71_0 rfl)<|qt (x_load1 T.na69 rfl (H17.ld 1 rfl 0 rfl))<|qt (x_neqN (b:=10) rfl rfl)<|st_if (p:=t.k≠10) (x_move rfl) (fun h374=>?_) (fun h374=>?_)
         ·refine st_gn 3 198 rfl rfl (by decide) rfl<|st_gn 3 198 rfl rfl (by decide) rfl<|st_gn 3 198 rfl rfl (by decide) rfl<|st_gn 3 198 rfl rfl (by decide) rfl<|st_gn 3 198 rfl rfl (by decide) rfl<|st_gn 3 198 rfl rfl (by decide) rfl<|qt (pkT rfl)<|nl<|k373 _ _<|cndT rfl<|?_
          refine sr fun Q375 k376=>qt asg<|nl<|k376 _ _<|ret<|kr370 _ _<|leave1 (P:=Tryz.prog) (fn:=Tryz.f26) (t:=4) (v:=.bool false) rfl rfl<|?_
          exact ⟨x,false,rfl,.inr ⟨rfl,s8_none ⟨h31,h78,h104,h166,h240,h280,h326,h344⟩ (by omega),rfl⟩,(H17.pick [2,3,4,5] (by decide))⟩
         ·refine st_gq 3 198 rfl rfl (by decide)<|qt mv<|st_gq 3 198 rfl rfl (by decide)<|qt (x_nilCheck rfl)<|st_gq 3 198 rfl rfl (by decide)<|qt (x_field (o:=0) T.fa77_0 rfl)<|st_gq 3 198 rfl rfl (by decide)<|qt (x_load1 T.na23 rfl (H17.ld 2 rfl 0 rfl))<|st_gq 3 198 rfl rfl (by decide)<|qt (x_lenSl rfl Tryz.underlying23 rfl)<|st_gq 3 198 rfl rfl (by decide)<|qt (x_geqN (b:=256) rfl rfl)<|qt (pkF rfl)<|nl<|k373 _ _<|cnd (p:=256≤x.rows.length) rfl (fun h377=>?_) (fun h377=>?_)
          ·refine sr fun Q378 k379=>qt asg<|nl<|k379 _ _<|ret<|kr370 _ _<|leave1 (P:=Tryz.prog) (fn:=Tryz.f26) (t:=4) (v:=.bool false) rfl rfl<|?_
           exact ⟨x,false,rfl,.inr ⟨rfl,s8_none ⟨h31,h78,h104,h166,h240,h280,h326,h344⟩ (by omega),rfl⟩,(H17.pick [2,3,4,5] (by decide))⟩
          ·refine skip<|kn369 _ _<|?_
           refine sr fun Q380 k381=>qt mv<|qt (x_nilCheck rfl)<|qt (x_field (o:=0) T.fa77_1 rfl)<|?_
           refine st_s<|Est (v:=.int .i64 ((0:Nat):Int)) H17 2 T.sz75 rfl rfl rfl rfl rfl rfl fun w382 H383=>nl<|k381 _ _<|?_
           refine sr fun Q384 k385=>qt asg<|nl<|k385 _ _<|ret<|leave1 (P:=Tryz.prog) (fn:=Tryz.f26) (t:=4) (v:=.bool true) rfl rfl<|?_
           exact ⟨⟨x.rows,x.aq,x.cq,0,(⟨x.now.1.kind,x.now.1.pred,x.now.1.args,x.now.1.left,x.now.1.right⟩,(x.now.2.1,x.now.2.2))⟩,true,rfl,.inl ⟨rfl,s8_comma ⟨h31,h78,h104,h166,h240,h280,h326,h344⟩ (by omega) (by omega) rfl⟩,(RMem.mk' (by first | rfl | simp) (by first | rfl | simp) (H383.pick [2,3,4,5] (by decide)))⟩
end Go.Proofs.YtljfgmedbjlkaaaGreat
