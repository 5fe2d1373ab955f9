/- Literals that are read; what is printed of them. -/
import Derived.Test.YtljfgmedbjlkaaaGreatQA
import Derived.Test.YtljfgmedbjlkaaaGreatV3
import Derived.Test.YtljfgmedbjlkaaaGreatQX
import Derived.Test.YtljfgmedbjlkaaaGreatQV
import Derived.Test.YtljfgmedbjlkaaaGreatProg
import Derived.Test.YtljfgmedbjlkaaaGreatQT
namespace Go.Proofs.YtljfgmedbjlkaaaGreat
open Go.RowKit Go.Eng Go.QP
theorem T.cf25:CF Tryz.prog 25:=fun _ _=>by kernel_rfl
theorem T.cf26:CF Tryz.prog 26:=fun _ _=>by kernel_rfl
theorem T.cf27:CF Tryz.prog 27:=fun _ _=>by kernel_rfl
theorem T.fa71_2:FA Tryz.prog 71 2 2:=fun _ _=>by kernel_rfl
theorem T.eqK71:EQK Tryz.prog 71:=⟨⟨_,_,_,_,Tryz.underlying71,rfl,rfl,rfl,rfl,rfl,rfl,rfl,rfl,Tryz.underlying69,Tryz.underlying9,Tryz.underlying3,Tryz.underlying3⟩,by kernel_rfl,by kernel_rfl⟩
theorem T.cf29:CF Tryz.prog 29:=fun _ _=>by kernel_rfl
theorem Parse8 (t:ByteArray) (w0:World) (hs:t.size≤68719476736) :
  Calls Tryz.prog 8 #[.string t] w0 fun e w'=>(∃ a c rows,e= .returned (.tuple #[.slice a rows.length c,.int .i64 ((0:Nat):Int),.int .i64 ((0:Nat):Int)])∧parseS t=(some (rows.map (·.1)),0)∧Hp No w0 w' [cQ 37 eL a rows.length c rows,cF rows.length fun k=>pL (el rows k)])∨(∃ n:Nat,e= .returned (.tuple #[.slice none 0 0,.int .i64 ((n:Nat):Int),.int .i64 ((11:Nat):Int)])∧parseS t=(none,n)∧Ext w0 w'):=by
 have htl:=toks_len (t:=t)
 refine enter Tryz.func8 rfl 149 Tryz.ntmps8 rfl<|?_
 refine sr fun Q1 k2=>qt asg<|qt asg<|qt asg<|nl<|k2 _ _<|?_
 refine sr fun Q3 k4=>qt mv<|?_
 refine cl T.cf25 (Tokens25 t _ hs) rfl fun _ w9 ⟨a5,c6,n7,er,K8⟩=>⟨_,er,?_⟩
 have H10:=(Hp.start No w0).app' K8
 refine qt mv<|qt (x_extract rfl rfl)<|qt (x_extract rfl rfl)<|qt (x_extract rfl rfl)<|qt (x_extract rfl rfl)<|?_
 refine st_e<|Eal H10 T.zv71 fun b11 w12 H13 x14=>qt asg<|?_
 refine st_s<|Est (v:=.agg #[.int .i64 (((toksOf t).2.1.k:Nat):Int),.string ((toksOf t).2.1.s),.int .i64 (((toksOf t).2.1.i:Nat):Int),.int .i64 (((toksOf t).2.1.j:Nat):Int)]) H13 0 T.sz71 rfl rfl rfl rfl rfl rfl fun w15 H16=>qt asg<|qt asg<|nl<|k4 _ _<|?_
 refine sr fun Q17 k18=>qt (v:=.agg #[.slice none 0 0,.int .i64 ((0:Nat):Int),.int .i64 ((0:Nat):Int),.string ByteArray.empty,.slice none 0 0,.bool false,.string ByteArray.empty,.bool false,.string ByteArray.empty]) (x_build (fun _=>by kernel_rfl))<|?_
 refine st_e<|Ebx (v:=.agg #[.slice none 0 0,.int .i64 ((0:Nat):Int),.int .i64 ((0:Nat):Int),.string ByteArray.empty,.slice none 0 0,.bool false,.string ByteArray.empty,.bool false,.string ByteArray.empty]) H16 rfl fun b19 w20 H21 x22=>qt asg<|nl<|k18 _ _<|?_
 refine seqLK (n:=149) (ds:=[]) (α:=RM) (fun x=>[(0,.string t),(6,.pointer (some ⟨b11,0,none⟩)),(7,.int .i64 (((toksOf t).2.2:Nat):Int)),(9,.pointer (some ⟨b19,0,none⟩))]) (fun x w23=>Hp No w0 w23 [cB b11 71 [.int .i64 (((toksOf t).2.1.k:Nat):Int),.string ((toksOf t).2.1.s),.int .i64 (((toksOf t).2.1.i:Nat):Int),.int .i64 (((toksOf t).2.1.j:Nat):Int)],cQ 71 eK a5 ((toksOf t).1.length) c6 ((toksOf t).1),cB b19 77 [.slice x.aq x.rows.length x.cq,.int .i64 ((x.at_:Nat):Int),.int .i64 x.now.1.kind,.string x.now.1.pred,.slice x.now.2.1 x.now.1.args.length x.now.2.2,.bool (decide (x.now.1.left.1=true)),.string x.now.1.left.2,.bool (decide (x.now.1.right.1=true)),.string x.now.1.right.2],cQ 37 eL x.aq x.rows.length x.cq x.rows,cQ 35 eT x.now.2.1 x.now.1.args.length x.now.2.2 x.now.1.args,cF x.rows.length fun k=>pL (el x.rows k)]∧takesS RS0 (toksOf t).1=(x.rs,none)∧x.rows.length≤t.size) ?_ ?_
 ·intro Q24 kn25 kr26 ke27
  refine sr fun Q28 k29=>qt mv<|qt (x_lenSl rfl Tryz.underlying68 rfl)<|qt mv<|nl<|k29 _ _<|blockK fun Q30 kn31 kr32 kx33 kb34=>?_
  refine loopK (α:=Nat × RM) (fun x=>[(0,.string t),(6,.pointer (some ⟨b11,0,none⟩)),(7,.int .i64 (((toksOf t).2.2:Nat):Int)),(9,.pointer (some ⟨b19,0,none⟩)),(24,.slice a5 ((toksOf t).1.length) c6),(25,.int .i64 (((toksOf t).1.length:Nat):Int)),(26,.int .i64 ((x.1:Nat):Int))]) (fun x w35=>Hp No w0 w35 [cB b11 71 [.int .i64 (((toksOf t).2.1.k:Nat):Int),.string ((toksOf t).2.1.s),.int .i64 (((toksOf t).2.1.i:Nat):Int),.int .i64 (((toksOf t).2.1.j:Nat):Int)],cQ 71 eK a5 ((toksOf t).1.length) c6 ((toksOf t).1),cB b19 77 [.slice x.2.aq x.2.rows.length x.2.cq,.int .i64 ((x.2.at_:Nat):Int),.int .i64 x.2.now.1.kind,.string x.2.now.1.pred,.slice x.2.now.2.1 x.2.now.1.args.length x.2.now.2.2,.bool (decide (x.2.now.1.left.1=true)),.string x.2.now.1.left.2,.bool (decide (x.2.now.1.right.1=true)),.string x.2.now.1.right.2],cQ 37 eL x.2.aq x.2.rows.length x.2.cq x.2.rows,cQ 35 eT x.2.now.2.1 x.2.now.1.args.length x.2.now.2.2 x.2.now.1.args,cF x.2.rows.length fun k=>pL (el x.2.rows k)]∧x.1≤(toksOf t).1.length∧x.2.rows.length≤x.1∧x.2.now.1.args.length≤x.1∧takesS x.2.rs ((toksOf t).1.drop x.1)=takesS RS0 (toksOf t).1) (fun x=>(toksOf t).1.length-x.1) (0,⟨[],none,0,0,(⟨0,ByteArray.empty,[],Tm0,Tm0⟩,(none,0))⟩) ⟨rfl,rfl,rfl,rfl,rfl,rfl,rfl,trivial⟩ ?_ ?_
  ·refine ⟨(RMem.loop0 ((((H21.fnil (fun k=>pL (el ([]:List Rw) k))).nilQ 35 eT).nilQ 37 eL).pick [4,5,3,0,1,2] (by decide))),?_⟩
   try dsimp only
   exact ⟨Nat.zero_le _,Nat.le_refl _,Nat.le_refl _,rfl⟩
  ·rintro τ36 ⟨i,rd⟩ w37 ⟨hx38,⟨hi,hrl,hal,hT⟩⟩
   try dsimp only at hi hrl hal hT
   have hz39:=hx38.le
   intro Q40 kn41 kr42 ke43
   dsimp only at hx38 ⊢
   refine sr fun Q44 k45=>qt (x_lssN rfl rfl)<|nl<|k45 _ _<|seqK fun Q46 kn47 kr48 ke49=>cnd (p:=i<((toksOf t).1.length)) rfl (fun h50=>?_) (fun h50=>?_)
   ·refine skip<|kn47 _ _<|seqK fun Q51 kn52 kr53 ke54=>blockK fun Q55 kn56 kr57 kx58 kb59=>?_
    refine sr fun Q60 k61=>qt (x_index' T.sl68 rfl ((hx38.srQ 1 rfl).addr (by omega)) rfl (by omega))<|qt (x_loadA [.int .i64 (((el ((toksOf t).1) i).k:Nat):Int),.string ((el ((toksOf t).1) i).s),.int .i64 (((el ((toksOf t).1) i).i:Nat):Int),.int .i64 (((el ((toksOf t).1) i).j:Nat):Int)] T.ag71 rfl ((hx38.srQ 1 rfl).cell (i:=i) (by omega)))<|?_
    refine st_e<|Eal hx38 T.zv71 fun b62 w63 H64 x65=>?_
    refine st_s<|Est (v:=.agg #[.int .i64 (((el ((toksOf t).1) i).k:Nat):Int),.string ((el ((toksOf t).1) i).s),.int .i64 (((el ((toksOf t).1) i).i:Nat):Int),.int .i64 (((el ((toksOf t).1) i).j:Nat):Int)]) H64 0 T.sz71 rfl rfl rfl rfl rfl rfl fun w66 H67=>nl<|k61 _ _<|seqK fun Q68 kn69 kr70 ke71=>?_
    refine sr fun Q72 k73=>qt mv<|qt (x_loadA [.int .i64 (((el ((toksOf t).1) i).k:Nat):Int),.string ((el ((toksOf t).1) i).s),.int .i64 (((el ((toksOf t).1) i).i:Nat):Int),.int .i64 (((el ((toksOf t).1) i).j:Nat):Int)] T.ag71 rfl (H67.lds 0 rfl 0 [.int .i64 (((el ((toksOf t).1) i).k:Nat):Int),.string ((el ((toksOf t).1) i).s),.int .i64 (((el ((toksOf t).1) i).i:Nat):Int),.int .i64 (((el ((toksOf t).1) i).j:Nat):Int)] rfl))<|?_
    have H78:Hp No w0 w66 ([cB b19 77 [.slice rd.aq rd.rows.length rd.cq,.int .i64 ((rd.at_:Nat):Int),.int .i64 rd.now.1.kind,.string rd.now.1.pred,.slice rd.now.2.1 rd.now.1.args.length rd.now.2.2,.bool (decide (rd.now.1.left.1=true)),.string rd.now.1.left.2,.bool (decide (rd.now.1.right.1=true)),.string rd.now.1.right.2],cQ 37 eL rd.aq rd.rows.length rd.cq rd.rows,cQ 35 eT rd.now.2.1 rd.now.1.args.length rd.now.2.2 rd.now.1.args,cF rd.rows.length fun k=>pL (el rd.rows k)]++[cB b62 71 [.int .i64 (((el ((toksOf t).1) i).k:Nat):Int),.string ((el ((toksOf t).1) i).s),.int .i64 (((el ((toksOf t).1) i).i:Nat):Int),.int .i64 (((el ((toksOf t).1) i).j:Nat):Int)],cB b11 71 [.int .i64 (((toksOf t).2.1.k:Nat):Int),.string ((toksOf t).2.1.s),.int .i64 (((toksOf t).2.1.i:Nat):Int),.int .i64 (((toksOf t).2.1.j:Nat):Int)],cQ 71 eK a5 ((toksOf t).1.length) c6 ((toksOf t).1)]):=(H67.pick [3,4,5,6,0,1,2] (by decide))
    refine cl T.cf26 (take26 _ b19 rd _ (RMem.mk' (by first | rfl | simp) (by first | rfl | simp) H78.startL) (el (toksOf t).1 i) (by omega) (by omega)) rfl fun _ w79 ⟨rd74,r75,er,hr76,K77⟩=>⟨_,er,?_⟩
    have H80:=H78.callL K77
    refine nl<|k73 _ _<|cndB (b:=r75) rfl (fun h81=>?_) (fun h81=>?_)
    ·refine exit<|ke71 _ _ _<|kb59 _ _<|kn52 _ _<|region<|qt (addN (b:=1) rfl rfl)<|qt mv<|nl<|?_
     refine kn41 _ ((i+1),rd74) _ ⟨rfl,rfl,rfl,rfl,rfl,rfl,rfl,trivial⟩ ⟨(H80.pick [5,6,0,1,2,3] (by decide)),?_⟩ ?_
     ·try dsimp only
      have hk:=(hr76.resolve_right (fun h=>by have:=h.1.symm.trans (by assumption);cases this)).2
      have hl:=takeS_len hk
      have hl1:rd74.rows.length≤rd.rows.length+1:=by have:=hl.1;simpa [RM.rs] using this
      exact ⟨by omega,by omega,Nat.le_trans hl.2 (by show rd.now.1.args.length+1≤_;omega),takes_step hT (by omega) hk⟩
     ·(try dsimp only);omega
    ·refine skip<|kn69 _ _<|seqK fun Q82 kn83 kr84 ke85=>?_
     refine sr fun Q86 k87=>qt (x_field (o:=0) T.fa71_0 rfl)<|qt (x_load1 T.na69 rfl (H80.ld 4 rfl 0 rfl))<|qt (x_eqlN (b:=7) rfl rfl)<|st_if (p:=((el ((toksOf t).1) i).k)=7) (x_move rfl) (fun h88=>?_) (fun h88=>?_)
     ·refine st_gn 3 36 rfl rfl (by decide) rfl<|st_gn 3 36 rfl rfl (by decide) rfl<|st_gn 3 36 rfl rfl (by decide) rfl<|qt (pkT rfl)<|qt mv<|st_gn 8 41 rfl rfl (by decide) rfl<|st_gn 8 41 rfl rfl (by decide) rfl<|st_gn 8 41 rfl rfl (by decide) rfl<|qt (pkT rfl)<|qt mv<|st_gq 13 46 rfl rfl (by decide)<|qt mv<|st_gq 13 46 rfl rfl (by decide)<|?_
      refine cl T.cf27 (wants27 b19 rd74.at_ 1 _ (H80.ld 0 rfl 1 rfl)) rfl fun _ _ ⟨er,rfl⟩=>⟨_,er,?_⟩
      refine qt (pkT rfl)<|nl<|k87 _ _<|cnd (p:=wantsS rd74.at_ 1) rfl (fun h90=>?_) (fun h90=>?_)
      ·refine seqK fun Q91 kn92 kr93 ke94=>regionD1 [1] [0,1,2,3,4] (.one 0 (.one 1 (.one 2 (.one 3 (.one 4 .done))))) (by kernel_rfl) (by kernel_rfl) fun w95 x96 s97=>?_
       have H98:=H80.ext x96
       have S99:Ext w95 w95:=Below.refl _ _
       refine d_q rfl rfl (fun _=>x_field (o:=0) T.fa71_3 rfl)<|d_l rfl rfl rfl (fun _ y100=>x_load1 T.na3 rfl ((H98.ld 4 rfl 3 rfl).ext y100))<|d_q rfl rfl (fun _=>asg)<|d_q rfl rfl (fun _=>asg)<|d_q rfl rfl (fun _=>asg)<|d_done<|kn92 _ _<|ret<|kr84 _ _<|kr57 _ _<|kr53 _ _<|kr42 _ _<|kr32 _ _<|kr26 _ _<|leave3 (P:=Tryz.prog) (fn:=Tryz.f8) (t:=2) (u:=3) (s:=4) (v:=.slice none 0 0) (v':=.int .i64 (((el ((toksOf t).1) i).j:Nat):Int)) (v'':=.int .i64 ((11:Nat):Int)) rfl rfl rfl rfl ?_
       have hk:=(hr76.resolve_left (fun h=>by have:=h.1.symm.trans (by assumption);cases this)).2
       have hy:=takes_bad hT (by omega) hk.1
       exact .inr ⟨_,rfl,ps_j hy (⟨by omega,by have h9:=h90;rw [hk.2] at h9;exact h9⟩),H98.x⟩
      ·refine skip<|kn83 _ _<|seqK fun Q101 kn102 kr103 ke104=>regionD1 [1] [0,1,2,3,4] (.one 0 (.one 1 (.one 2 (.one 3 (.one 4 .done))))) (by kernel_rfl) (by kernel_rfl) fun w105 x106 s107=>?_
       have H108:=H80.ext x106
       have S109:Ext w105 w105:=Below.refl _ _
       refine d_q rfl rfl (fun _=>x_field (o:=0) T.fa71_2 rfl)<|d_l rfl rfl rfl (fun _ y110=>x_load1 T.na3 rfl ((H108.ld 4 rfl 2 rfl).ext y110))<|d_q rfl rfl (fun _=>asg)<|d_q rfl rfl (fun _=>asg)<|d_q rfl rfl (fun _=>asg)<|d_done<|kn102 _ _<|ret<|kr57 _ _<|kr53 _ _<|kr42 _ _<|kr32 _ _<|kr26 _ _<|leave3 (P:=Tryz.prog) (fn:=Tryz.f8) (t:=2) (u:=3) (s:=4) (v:=.slice none 0 0) (v':=.int .i64 (((el ((toksOf t).1) i).i:Nat):Int)) (v'':=.int .i64 ((11:Nat):Int)) rfl rfl rfl rfl ?_
       have hk:=(hr76.resolve_left (fun h=>by have:=h.1.symm.trans (by assumption);cases this)).2
       have hy:=takes_bad hT (by omega) hk.1
       exact .inr ⟨_,rfl,ps_i hy (fun h=>h90 (by rw [hk.2];exact h.2)),H108.x⟩
     ·refine st_gq 3 36 rfl rfl (by decide)<|qt (x_field (o:=0) T.fa71_0 rfl)<|st_gq 3 36 rfl rfl (by decide)<|qt (x_load1 T.na69 rfl (H80.ld 4 rfl 0 rfl))<|st_gq 3 36 rfl rfl (by decide)<|qt (x_eqlN (b:=5) rfl rfl)<|qt (pkF rfl)<|st_if (p:=((el ((toksOf t).1) i).k)=5) (x_move rfl) (fun h111=>?_) (fun h111=>?_)
      ·refine st_gn 8 41 rfl rfl (by decide) rfl<|st_gn 8 41 rfl rfl (by decide) rfl<|st_gn 8 41 rfl rfl (by decide) rfl<|qt (pkT rfl)<|qt mv<|st_gq 13 46 rfl rfl (by decide)<|qt mv<|st_gq 13 46 rfl rfl (by decide)<|?_
       refine cl T.cf27 (wants27 b19 rd74.at_ 1 _ (H80.ld 0 rfl 1 rfl)) rfl fun _ _ ⟨er,rfl⟩=>⟨_,er,?_⟩
       refine qt (pkT rfl)<|nl<|k87 _ _<|cnd (p:=wantsS rd74.at_ 1) rfl (fun h113=>?_) (fun h113=>?_)
       ·refine seqK fun Q114 kn115 kr116 ke117=>regionD1 [1] [0,1,2,3,4] (.one 0 (.one 1 (.one 2 (.one 3 (.one 4 .done))))) (by kernel_rfl) (by kernel_rfl) fun w118 x119 s120=>?_
        have H121:=H80.ext x119
        have S122:Ext w118 w118:=Below.refl _ _
        refine d_q rfl rfl (fun _=>x_field (o:=0) T.fa71_3 rfl)<|d_l rfl rfl rfl (fun _ y123=>x_load1 T.na3 rfl ((H121.ld 4 rfl 3 rfl).ext y123))<|d_q rfl rfl (fun _=>asg)<|d_q rfl rfl (fun _=>asg)<|d_q rfl rfl (fun _=>asg)<|d_done<|kn115 _ _<|ret<|kr84 _ _<|kr57 _ _<|kr53 _ _<|kr42 _ _<|kr32 _ _<|kr26 _ _<|leave3 (P:=Tryz.prog) (fn:=Tryz.f8) (t:=2) (u:=3) (s:=4) (v:=.slice none 0 0) (v':=.int .i64 (((el ((toksOf t).1) i).j:Nat):Int)) (v'':=.int .i64 ((11:Nat):Int)) rfl rfl rfl rfl ?_
        have hk:=(hr76.resolve_left (fun h=>by have:=h.1.symm.trans (by assumption);cases this)).2
        have hy:=takes_bad hT (by omega) hk.1
        exact .inr ⟨_,rfl,ps_j hy (⟨by omega,by have h9:=h113;rw [hk.2] at h9;exact h9⟩),H121.x⟩
       ·refine skip<|kn83 _ _<|seqK fun Q124 kn125 kr126 ke127=>regionD1 [1] [0,1,2,3,4] (.one 0 (.one 1 (.one 2 (.one 3 (.one 4 .done))))) (by kernel_rfl) (by kernel_rfl) fun w128 x129 s130=>?_
        have H131:=H80.ext x129
        have S132:Ext w128 w128:=Below.refl _ _
        refine d_q rfl rfl (fun _=>x_field (o:=0) T.fa71_2 rfl)<|d_l rfl rfl rfl (fun _ y133=>x_load1 T.na3 rfl ((H131.ld 4 rfl 2 rfl).ext y133))<|d_q rfl rfl (fun _=>asg)<|d_q rfl rfl (fun _=>asg)<|d_q rfl rfl (fun _=>asg)<|d_done<|kn125 _ _<|ret<|kr57 _ _<|kr53 _ _<|kr42 _ _<|kr32 _ _<|kr26 _ _<|leave3 (P:=Tryz.prog) (fn:=Tryz.f8) (t:=2) (u:=3) (s:=4) (v:=.slice none 0 0) (v':=.int .i64 (((el ((toksOf t).1) i).i:Nat):Int)) (v'':=.int .i64 ((11:Nat):Int)) rfl rfl rfl rfl ?_
        have hk:=(hr76.resolve_left (fun h=>by have:=h.1.symm.trans (by assumption);cases this)).2
        have hy:=takes_bad hT (by omega) hk.1
        exact .inr ⟨_,rfl,ps_i hy (fun h=>h113 (by rw [hk.2];exact h.2)),H131.x⟩
      ·refine st_gq 8 41 rfl rfl (by decide)<|qt (x_field (o:=0) T.fa71_0 rfl)<|st_gq 8 41 rfl rfl (by decide)<|qt (x_load1 T.na69 rfl (H80.ld 4 rfl 0 rfl))<|st_gq 8 41 rfl rfl (by decide)<|qt (x_eqlN (b:=6) rfl rfl)<|qt (pkF rfl)<|st_if (p:=((el ((toksOf t).1) i).k)=6) (x_move rfl) (fun h134=>?_) (fun h134=>?_)
       ·refine st_gq 13 46 rfl rfl (by decide)<|qt mv<|st_gq 13 46 rfl rfl (by decide)<|?_
        refine cl T.cf27 (wants27 b19 rd74.at_ 1 _ (H80.ld 0 rfl 1 rfl)) rfl fun _ _ ⟨er,rfl⟩=>⟨_,er,?_⟩
        refine qt (pkT rfl)<|nl<|k87 _ _<|cnd (p:=wantsS rd74.at_ 1) rfl (fun h136=>?_) (fun h136=>?_)
        ·refine seqK fun Q137 kn138 kr139 ke140=>regionD1 [1] [0,1,2,3,4] (.one 0 (.one 1 (.one 2 (.one 3 (.one 4 .done))))) (by kernel_rfl) (by kernel_rfl) fun w141 x142 s143=>?_
         have H144:=H80.ext x142
         have S145:Ext w141 w141:=Below.refl _ _
         refine d_q rfl rfl (fun _=>x_field (o:=0) T.fa71_3 rfl)<|d_l rfl rfl rfl (fun _ y146=>x_load1 T.na3 rfl ((H144.ld 4 rfl 3 rfl).ext y146))<|d_q rfl rfl (fun _=>asg)<|d_q rfl rfl (fun _=>asg)<|d_q rfl rfl (fun _=>asg)<|d_done<|kn138 _ _<|ret<|kr84 _ _<|kr57 _ _<|kr53 _ _<|kr42 _ _<|kr32 _ _<|kr26 _ _<|leave3 (P:=Tryz.prog) (fn:=Tryz.f8) (t:=2) (u:=3) (s:=4) (v:=.slice none 0 0) (v':=.int .i64 (((el ((toksOf t).1) i).j:Nat):Int)) (v'':=.int .i64 ((11:Nat):Int)) rfl rfl rfl rfl ?_
         have hk:=(hr76.resolve_left (fun h=>by have:=h.1.symm.trans (by assumption);cases this)).2
         have hy:=takes_bad hT (by omega) hk.1
         exact .inr ⟨_,rfl,ps_j hy (⟨by omega,by have h9:=h136;rw [hk.2] at h9;exact h9⟩),H144.x⟩
        ·refine skip<|kn83 _ _<|seqK fun Q147 kn148 kr149 ke150=>regionD1 [1] [0,1,2,3,4] (.one 0 (.one 1 (.one 2 (.one 3 (.one 4 .done))))) (by kernel_rfl) (by kernel_rfl) fun w151 x152 s153=>?_
         have H154:=H80.ext x152
         have S155:Ext w151 w151:=Below.refl _ _
         refine d_q rfl rfl (fun _=>x_field (o:=0) T.fa71_2 rfl)<|d_l rfl rfl rfl (fun _ y156=>x_load1 T.na3 rfl ((H154.ld 4 rfl 2 rfl).ext y156))<|d_q rfl rfl (fun _=>asg)<|d_q rfl rfl (fun _=>asg)<|d_q rfl rfl (fun _=>asg)<|d_done<|kn148 _ _<|ret<|kr57 _ _<|kr53 _ _<|kr42 _ _<|kr32 _ _<|kr26 _ _<|leave3 (P:=Tryz.prog) (fn:=Tryz.f8) (t:=2) (u:=3) (s:=4) (v:=.slice none 0 0) (v':=.int .i64 (((el ((toksOf t).1) i).i:Nat):Int)) (v'':=.int .i64 ((11:Nat):Int)) rfl rfl rfl rfl ?_
         have hk:=(hr76.resolve_left (fun h=>by have:=h.1.symm.trans (by assumption);cases this)).2
         have hy:=takes_bad hT (by omega) hk.1
         exact .inr ⟨_,rfl,ps_i hy (fun h=>h136 (by rw [hk.2];exact h.2)),H154.x⟩
       ·refine st_gn 13 46 rfl rfl (by decide) rfl<|st_gn 13 46 rfl rfl (by decide) rfl<|qt (pkF rfl)<|nl<|k87 _ _<|cndF rfl<|skip<|kn83 _ _<|seqK fun Q157 kn158 kr159 ke160=>regionD1 [1] [0,1,2,3,4] (.one 0 (.one 1 (.one 2 (.one 3 (.one 4 .done))))) (by kernel_rfl) (by kernel_rfl) fun w161 x162 s163=>?_
        have H164:=H80.ext x162
        have S165:Ext w161 w161:=Below.refl _ _
        refine d_q rfl rfl (fun _=>x_field (o:=0) T.fa71_2 rfl)<|d_l rfl rfl rfl (fun _ y166=>x_load1 T.na3 rfl ((H164.ld 4 rfl 2 rfl).ext y166))<|d_q rfl rfl (fun _=>asg)<|d_q rfl rfl (fun _=>asg)<|d_q rfl rfl (fun _=>asg)<|d_done<|kn158 _ _<|ret<|kr57 _ _<|kr53 _ _<|kr42 _ _<|kr32 _ _<|kr26 _ _<|leave3 (P:=Tryz.prog) (fn:=Tryz.f8) (t:=2) (u:=3) (s:=4) (v:=.slice none 0 0) (v':=.int .i64 (((el ((toksOf t).1) i).i:Nat):Int)) (v'':=.int .i64 ((11:Nat):Int)) rfl rfl rfl rfl ?_
        have hk:=(hr76.resolve_left (fun h=>by have:=h.1.symm.trans (by assumption);cases this)).2
        have hy:=takes_bad hT (by omega) hk.1
        exact .inr ⟨_,rfl,ps_i hy (fun h=>by have:=h.1;omega),H164.x⟩
   ·refine exit<|ke49 _ _ _<|ke43 _ _ _<|kb34 _ _<|?_
    refine kn25 _ (rd) _ ⟨rfl,rfl,rfl,rfl,trivial⟩ ⟨(hx38.pick [0,1,2,3,4,5] (by decide)),?_⟩
    try dsimp only
    exact ⟨takes_end hT (by omega),by omega⟩
 ·rintro τ167 rd w168 ⟨H169,⟨hy,hrl⟩⟩
  try dsimp only at H169 hy hrl ⊢
  refine seqK fun Q170 kn171 kr172 ke173=>blockK fun Q174 kn175 kr176 kx177 kb178=>?_
  refine seqLK (n:=149) (ds:=[]) (α:=Bool) (fun x=>[(0,.string t),(6,.pointer (some ⟨b11,0,none⟩)),(7,.int .i64 (((toksOf t).2.2:Nat):Int)),(9,.pointer (some ⟨b19,0,none⟩)),(55,.bool x)]) (fun x w179=>Hp No w0 w179 [cB b11 71 [.int .i64 (((toksOf t).2.1.k:Nat):Int),.string ((toksOf t).2.1.s),.int .i64 (((toksOf t).2.1.i:Nat):Int),.int .i64 (((toksOf t).2.1.j:Nat):Int)],cQ 71 eK a5 ((toksOf t).1.length) c6 ((toksOf t).1),cB b19 77 [.slice rd.aq rd.rows.length rd.cq,.int .i64 ((rd.at_:Nat):Int),.int .i64 rd.now.1.kind,.string rd.now.1.pred,.slice rd.now.2.1 rd.now.1.args.length rd.now.2.2,.bool (decide (rd.now.1.left.1=true)),.string rd.now.1.left.2,.bool (decide (rd.now.1.right.1=true)),.string rd.now.1.right.2],cQ 37 eL rd.aq rd.rows.length rd.cq rd.rows,cQ 35 eT rd.now.2.1 rd.now.1.args.length rd.now.2.2 rd.now.1.args,cF rd.rows.length fun k=>pL (el rd.rows k)]∧x=decide (PsO t rd.rs)) ?_ ?_
  ·intro Q180 kn181 kr182 ke183
   refine sr fun Q184 k185=>qt (x_field (o:=0) T.fa71_0 rfl)<|qt (x_load1 T.na69 rfl (H169.ld 0 rfl 0 rfl))<|qt (x_eqlN (b:=4) rfl rfl)<|st_if (p:=((toksOf t).2.1.k)=4) (x_move rfl) (fun h186=>?_) (fun h186=>?_)
   ·refine st_gq 3 59 rfl rfl (by decide)<|qt mv<|st_gq 3 59 rfl rfl (by decide)<|?_
    refine cl T.cf27 (wants27 b19 rd.at_ 4 _ (H169.ld 2 rfl 1 rfl)) rfl fun _ _ ⟨er,rfl⟩=>⟨_,er,?_⟩
    refine st_gq 3 59 rfl rfl (by decide)<|qt (x_notP rfl)<|qt (pkT rfl)<|qt asg<|nl<|k185 _ _<|cnd (p:=¬ (wantsS rd.at_ 4)) rfl (fun h188=>?_) (fun h188=>?_)
    ·refine skip<|?_
     refine kn181 _ ((decide (¬ (wantsS rd.at_ 4)))) _ ⟨rfl,rfl,rfl,rfl,rfl,trivial⟩ ⟨H169,?_⟩
     try dsimp only
     exact decide_eq_decide.2 (pso1 (r:=rd.rs) (by omega))
    ·refine sr fun Q189 k190=>qt (x_field (o:=0) T.fa71_0 rfl)<|qt (x_load1 T.na69 rfl (H169.ld 0 rfl 0 rfl))<|qt (x_eqlN (b:=13) rfl rfl)<|qt asg<|nl<|k190 _ _<|cnd (p:=((toksOf t).2.1.k)=13) rfl (fun h191=>?_) (fun h191=>?_)
     ·refine skip<|?_
      refine kn181 _ ((decide (((toksOf t).2.1.k)=13))) _ ⟨rfl,rfl,rfl,rfl,rfl,trivial⟩ ⟨H169,?_⟩
      try dsimp only
      exact decide_eq_decide.2 (pso2 (r:=rd.rs) (by omega))
     ·refine region<|qt (x_field (o:=0) T.fa71_0 rfl)<|qt (x_load1 T.na69 rfl (H169.ld 0 rfl 0 rfl))<|qt (x_eqlN (b:=14) rfl rfl)<|st_if (p:=((toksOf t).2.1.k)=14) (x_move rfl) (fun h192=>?_) (fun h192=>?_)
      ·refine st_gq 3 70 rfl rfl (by decide)<|qt mv<|st_gq 3 70 rfl rfl (by decide)<|qt (x_nilCheck rfl)<|st_gq 3 70 rfl rfl (by decide)<|qt (x_field (o:=0) T.fa77_1 rfl)<|st_gq 3 70 rfl rfl (by decide)<|qt (x_load1 T.na75 rfl (H169.ld 2 rfl 1 rfl))<|st_gq 3 70 rfl rfl (by decide)<|qt (x_neqN (b:=2) rfl rfl)<|qt (pkT rfl)<|st_if (p:=rd.at_≠2) (x_move rfl) (fun h193=>?_) (fun h193=>?_)
       ·refine st_gq 10 77 rfl rfl (by decide)<|qt mv<|st_gq 10 77 rfl rfl (by decide)<|qt (x_nilCheck rfl)<|st_gq 10 77 rfl rfl (by decide)<|qt (x_field (o:=0) T.fa77_1 rfl)<|st_gq 10 77 rfl rfl (by decide)<|qt (x_load1 T.na75 rfl (H169.ld 2 rfl 1 rfl))<|st_gq 10 77 rfl rfl (by decide)<|qt (x_neqN (b:=6) rfl rfl)<|qt (pkT rfl)<|qt asg<|nl<|?_
        refine kn181 _ ((decide (rd.at_≠6))) _ ⟨rfl,rfl,rfl,rfl,rfl,trivial⟩ ⟨H169,?_⟩
        try dsimp only
        exact decide_eq_decide.2 (pso3 (r:=rd.rs) (by omega) (show rd.at_≠2 by omega))
       ·refine st_gn 10 77 rfl rfl (by decide) rfl<|st_gn 10 77 rfl rfl (by decide) rfl<|st_gn 10 77 rfl rfl (by decide) rfl<|st_gn 10 77 rfl rfl (by decide) rfl<|st_gn 10 77 rfl rfl (by decide) rfl<|qt (pkF rfl)<|qt asg<|nl<|?_
        refine kn181 _ (false) _ ⟨rfl,rfl,rfl,rfl,rfl,trivial⟩ ⟨H169,?_⟩
        try dsimp only
        exact (decide_eq_false (pso4 (r:=rd.rs) (.inr (Decidable.of_not_not h188)) (by omega) (by first | exact .inl (by omega) | exact .inr (show rd.at_=2 by omega)))).symm
      ·refine st_gn 3 70 rfl rfl (by decide) rfl<|st_gn 3 70 rfl rfl (by decide) rfl<|st_gn 3 70 rfl rfl (by decide) rfl<|st_gn 3 70 rfl rfl (by decide) rfl<|st_gn 3 70 rfl rfl (by decide) rfl<|qt (pkF rfl)<|qt mv<|st_gn 10 77 rfl rfl (by decide) rfl<|st_gn 10 77 rfl rfl (by decide) rfl<|st_gn 10 77 rfl rfl (by decide) rfl<|st_gn 10 77 rfl rfl (by decide) rfl<|st_gn 10 77 rfl rfl (by decide) rfl<|qt (pkF rfl)<|qt asg<|nl<|?_
       refine kn181 _ (false) _ ⟨rfl,rfl,rfl,rfl,rfl,trivial⟩ ⟨H169,?_⟩
       try dsimp only
       exact (decide_eq_false (pso4 (r:=rd.rs) (.inr (Decidable.of_not_not h188)) (by omega) (by first | exact .inl (by omega) | exact .inr (show rd.at_=2 by omega)))).symm
   ·refine st_gn 3 59 rfl rfl (by decide) rfl<|st_gn 3 59 rfl rfl (by decide) rfl<|st_gn 3 59 rfl rfl (by decide) rfl<|qt (pkF rfl)<|qt asg<|nl<|k185 _ _<|cndF rfl<|?_
    refine sr fun Q194 k195=>qt (x_field (o:=0) T.fa71_0 rfl)<|qt (x_load1 T.na69 rfl (H169.ld 0 rfl 0 rfl))<|qt (x_eqlN (b:=13) rfl rfl)<|qt asg<|nl<|k195 _ _<|cnd (p:=((toksOf t).2.1.k)=13) rfl (fun h196=>?_) (fun h196=>?_)
    ·refine skip<|?_
     refine kn181 _ ((decide (((toksOf t).2.1.k)=13))) _ ⟨rfl,rfl,rfl,rfl,rfl,trivial⟩ ⟨H169,?_⟩
     try dsimp only
     exact decide_eq_decide.2 (pso2 (r:=rd.rs) (by omega))
    ·refine region<|qt (x_field (o:=0) T.fa71_0 rfl)<|qt (x_load1 T.na69 rfl (H169.ld 0 rfl 0 rfl))<|qt (x_eqlN (b:=14) rfl rfl)<|st_if (p:=((toksOf t).2.1.k)=14) (x_move rfl) (fun h197=>?_) (fun h197=>?_)
     ·refine st_gq 3 70 rfl rfl (by decide)<|qt mv<|st_gq 3 70 rfl rfl (by decide)<|qt (x_nilCheck rfl)<|st_gq 3 70 rfl rfl (by decide)<|qt (x_field (o:=0) T.fa77_1 rfl)<|st_gq 3 70 rfl rfl (by decide)<|qt (x_load1 T.na75 rfl (H169.ld 2 rfl 1 rfl))<|st_gq 3 70 rfl rfl (by decide)<|qt (x_neqN (b:=2) rfl rfl)<|qt (pkT rfl)<|st_if (p:=rd.at_≠2) (x_move rfl) (fun h198=>?_) (fun h198=>?_)
      ·refine st_gq 10 77 rfl rfl (by decide)<|qt mv<|st_gq 10 77 rfl rfl (by decide)<|qt (x_nilCheck rfl)<|st_gq 10 77 rfl rfl (by decide)<|qt (x_field (o:=0) T.fa77_1 rfl)<|st_gq 10 77 rfl rfl (by decide)<|qt (x_load1 T.na75 rfl (H169.ld 2 rfl 1 rfl))<|st_gq 10 77 rfl rfl (by decide)<|qt (x_neqN (b:=6) rfl rfl)<|qt (pkT rfl)<|qt asg<|nl<|?_
       refine kn181 _ ((decide (rd.at_≠6))) _ ⟨rfl,rfl,rfl,rfl,rfl,trivial⟩ ⟨H169,?_⟩
       try dsimp only
       exact decide_eq_decide.2 (pso3 (r:=rd.rs) (by omega) (show rd.at_≠2 by omega))
      ·refine st_gn 10 77 rfl rfl (by decide) rfl<|st_gn 10 77 rfl rfl (by decide) rfl<|st_gn 10 77 rfl rfl (by decide) rfl<|st_gn 10 77 rfl rfl (by decide) rfl<|st_gn 10 77 rfl rfl (by decide) rfl<|qt (pkF rfl)<|qt asg<|nl<|?_
       refine kn181 _ (false) _ ⟨rfl,rfl,rfl,rfl,rfl,trivial⟩ ⟨H169,?_⟩
       try dsimp only
       exact (decide_eq_false (pso4 (r:=rd.rs) (.inl (by omega)) (by omega) (by first | exact .inl (by omega) | exact .inr (show rd.at_=2 by omega)))).symm
     ·refine st_gn 3 70 rfl rfl (by decide) rfl<|st_gn 3 70 rfl rfl (by decide) rfl<|st_gn 3 70 rfl rfl (by decide) rfl<|st_gn 3 70 rfl rfl (by decide) rfl<|st_gn 3 70 rfl rfl (by decide) rfl<|qt (pkF rfl)<|qt mv<|st_gn 10 77 rfl rfl (by decide) rfl<|st_gn 10 77 rfl rfl (by decide) rfl<|st_gn 10 77 rfl rfl (by decide) rfl<|st_gn 10 77 rfl rfl (by decide) rfl<|st_gn 10 77 rfl rfl (by decide) rfl<|qt (pkF rfl)<|qt asg<|nl<|?_
      refine kn181 _ (false) _ ⟨rfl,rfl,rfl,rfl,rfl,trivial⟩ ⟨H169,?_⟩
      try dsimp only
      exact (decide_eq_false (pso4 (r:=rd.rs) (.inl (by omega)) (by omega) (by first | exact .inl (by omega) | exact .inr (show rd.at_=2 by omega)))).symm
  ·rintro τ199 ob w200 ⟨H201,hob⟩
   try dsimp only at H201 hob ⊢
   have hobT:ob=true→PsO t rd.rs:=fun h=>of_decide_eq_true (hob.symm.trans h)
   have hobF:ob=false→¬ PsO t rd.rs:=fun h=>of_decide_eq_false (hob.symm.trans h)
   refine cndB (b:=ob) rfl (fun h202=>?_) (fun h202=>?_)
   ·refine seqK fun Q203 kn204 kr205 ke206=>regionD1 [1] [0,1,2,3,4] (.one 0 (.one 1 (.one 2 (.one 3 (.one 4 .done))))) (by kernel_rfl) (by kernel_rfl) fun w207 x208 s209=>?_
    have H210:=H201.ext x208
    have S211:Ext w207 w207:=Below.refl _ _
    refine d_q rfl rfl (fun _=>x_field (o:=0) T.fa71_2 rfl)<|d_l rfl rfl rfl (fun _ y212=>x_load1 T.na3 rfl ((H210.ld 0 rfl 2 rfl).ext y212))<|d_q rfl rfl (fun _=>asg)<|d_q rfl rfl (fun _=>asg)<|d_q rfl rfl (fun _=>asg)<|d_done<|kn204 _ _<|ret<|kr176 _ _<|kr172 _ _<|leave3 (P:=Tryz.prog) (fn:=Tryz.f8) (t:=2) (u:=3) (s:=4) (v:=.slice none 0 0) (v':=.int .i64 (((toksOf t).2.1.i:Nat):Int)) (v'':=.int .i64 ((11:Nat):Int)) rfl rfl rfl rfl ?_
    exact .inr ⟨_,rfl,ps_open hy (hobT (by assumption)),H210.x⟩
   ·refine sr fun Q213 k214=>qt (x_loadA [.int .i64 (((toksOf t).2.1.k:Nat):Int),.string ((toksOf t).2.1.s),.int .i64 (((toksOf t).2.1.i:Nat):Int),.int .i64 (((toksOf t).2.1.j:Nat):Int)] T.ag71 rfl (H201.lds 0 rfl 0 [.int .i64 (((toksOf t).2.1.k:Nat):Int),.string ((toksOf t).2.1.s),.int .i64 (((toksOf t).2.1.i:Nat):Int),.int .i64 (((toksOf t).2.1.j:Nat):Int)] rfl))<|qt (v:=.agg #[.int .i64 ((0:Nat):Int),.string ByteArray.empty,.int .i64 ((0:Nat):Int),.int .i64 ((0:Nat):Int)]) (x_build (fun _=>by kernel_rfl))<|qt (x_neqK T.eqK71 rfl rfl)<|st_if (p:=¬ ((((toksOf t).2.1.k:Nat):Int)=((0:Nat):Int)∧(toksOf t).2.1.s=ByteArray.empty∧(((toksOf t).2.1.i:Nat):Int)=((0:Nat):Int)∧(((toksOf t).2.1.j:Nat):Int)=((0:Nat):Int))) (x_move rfl) (fun h215=>?_) (fun h215=>?_)
    ·refine st_gn 3 90 rfl rfl (by decide) rfl<|st_gn 3 90 rfl rfl (by decide) rfl<|st_gn 3 90 rfl rfl (by decide) rfl<|st_gn 3 90 rfl rfl (by decide) rfl<|qt (pkT rfl)<|qt mv<|st_gn 9 96 rfl rfl (by decide) rfl<|st_gn 9 96 rfl rfl (by decide) rfl<|st_gn 9 96 rfl rfl (by decide) rfl<|st_gn 9 96 rfl rfl (by decide) rfl<|qt (pkT rfl)<|qt mv<|st_gn 15 102 rfl rfl (by decide) rfl<|st_gn 15 102 rfl rfl (by decide) rfl<|st_gn 15 102 rfl rfl (by decide) rfl<|qt (pkT rfl)<|qt asg<|nl<|k214 _ _<|cndT rfl<|?_
     refine sr fun Q216 k217=>qt mv<|qt asg<|qt asg<|qt asg<|nl<|k217 _ _<|ret<|kr176 _ _<|kr172 _ _<|leave3 (P:=Tryz.prog) (fn:=Tryz.f8) (t:=2) (u:=3) (s:=4) (v:=.slice none 0 0) (v':=.int .i64 (((toksOf t).2.2:Nat):Int)) (v'':=.int .i64 ((11:Nat):Int)) rfl rfl rfl rfl ?_
     exact .inr ⟨_,rfl,ps_far hy (hobF (by assumption)) (.inl (fun h=>by rw [toks_open h] at h215;exact h215 ⟨rfl,rfl,rfl,rfl⟩)),H201.x⟩
    ·refine st_gq 3 90 rfl rfl (by decide)<|qt mv<|st_gq 3 90 rfl rfl (by decide)<|qt mv<|st_gq 3 90 rfl rfl (by decide)<|qt (x_lenS rfl Tryz.underlying9 rfl)<|st_gq 3 90 rfl rfl (by decide)<|qt (x_geqN rfl rfl)<|qt (pkF rfl)<|st_if (p:=t.size≤((toksOf t).2.2)) (x_move rfl) (fun h218=>?_) (fun h218=>?_)
     ·refine st_gn 9 96 rfl rfl (by decide) rfl<|st_gn 9 96 rfl rfl (by decide) rfl<|st_gn 9 96 rfl rfl (by decide) rfl<|st_gn 9 96 rfl rfl (by decide) rfl<|qt (pkT rfl)<|qt mv<|st_gn 15 102 rfl rfl (by decide) rfl<|st_gn 15 102 rfl rfl (by decide) rfl<|st_gn 15 102 rfl rfl (by decide) rfl<|qt (pkT rfl)<|qt asg<|nl<|k214 _ _<|cndT rfl<|?_
      refine sr fun Q219 k220=>qt mv<|qt asg<|qt asg<|qt asg<|nl<|k220 _ _<|ret<|kr176 _ _<|kr172 _ _<|leave3 (P:=Tryz.prog) (fn:=Tryz.f8) (t:=2) (u:=3) (s:=4) (v:=.slice none 0 0) (v':=.int .i64 (((toksOf t).2.2:Nat):Int)) (v'':=.int .i64 ((11:Nat):Int)) rfl rfl rfl rfl ?_
      exact .inr ⟨_,rfl,ps_far hy (hobF (by assumption)) (.inr (.inl h218)),H201.x⟩
     ·refine st_gq 9 96 rfl rfl (by decide)<|qt mv<|st_gq 9 96 rfl rfl (by decide)<|qt mv<|st_gq 9 96 rfl rfl (by decide)<|qt (x_indexS Tryz.underlying9 rfl rfl (by omega))<|st_gq 9 96 rfl rfl (by decide)<|qt (x_neqN (b:=63) rfl rfl)<|qt (pkF rfl)<|st_if (p:=(ch t ((toksOf t).2.2))≠63) (x_move rfl) (fun h221=>?_) (fun h221=>?_)
      ·refine st_gn 15 102 rfl rfl (by decide) rfl<|st_gn 15 102 rfl rfl (by decide) rfl<|st_gn 15 102 rfl rfl (by decide) rfl<|qt (pkT rfl)<|qt asg<|nl<|k214 _ _<|cndT rfl<|?_
       refine sr fun Q222 k223=>qt mv<|qt asg<|qt asg<|qt asg<|nl<|k223 _ _<|ret<|kr176 _ _<|kr172 _ _<|leave3 (P:=Tryz.prog) (fn:=Tryz.f8) (t:=2) (u:=3) (s:=4) (v:=.slice none 0 0) (v':=.int .i64 (((toksOf t).2.2:Nat):Int)) (v'':=.int .i64 ((11:Nat):Int)) rfl rfl rfl rfl ?_
       exact .inr ⟨_,rfl,ps_far hy (hobF (by assumption)) (.inr (.inr (.inl h221))),H201.x⟩
      ·refine st_gq 15 102 rfl rfl (by decide)<|qt mv<|st_gq 15 102 rfl rfl (by decide)<|?_
       have H227:Hp No w0 w200 ([cB b19 77 [.slice rd.aq rd.rows.length rd.cq,.int .i64 ((rd.at_:Nat):Int),.int .i64 rd.now.1.kind,.string rd.now.1.pred,.slice rd.now.2.1 rd.now.1.args.length rd.now.2.2,.bool (decide (rd.now.1.left.1=true)),.string rd.now.1.left.2,.bool (decide (rd.now.1.right.1=true)),.string rd.now.1.right.2],cQ 37 eL rd.aq rd.rows.length rd.cq rd.rows,cQ 35 eT rd.now.2.1 rd.now.1.args.length rd.now.2.2 rd.now.1.args,cF rd.rows.length fun k=>pL (el rd.rows k)]++[cB b11 71 [.int .i64 (((toksOf t).2.1.k:Nat):Int),.string ((toksOf t).2.1.s),.int .i64 (((toksOf t).2.1.i:Nat):Int),.int .i64 (((toksOf t).2.1.j:Nat):Int)],cQ 71 eK a5 ((toksOf t).1.length) c6 ((toksOf t).1)]):=(H201.pick [2,3,4,5,0,1] (by decide))
       refine cl T.cf28 (ends28 _ b19 rd _ (RMem.mk' (by first | rfl | simp) (by first | rfl | simp) H227.startL) (by omega)) rfl fun _ w228 ⟨x224,hx225,er,K226⟩=>⟨_,er,?_⟩
       have H229:=H227.callL K226
       refine st_gq 15 102 rfl rfl (by decide)<|qt (x_notP rfl)<|qt (pkF rfl)<|qt asg<|nl<|k214 _ _<|cnd (p:=¬ (x224.at_=8)) rfl (fun h230=>?_) (fun h230=>?_)
       ·refine sr fun Q231 k232=>qt mv<|qt asg<|qt asg<|qt asg<|nl<|k232 _ _<|ret<|kr176 _ _<|kr172 _ _<|leave3 (P:=Tryz.prog) (fn:=Tryz.f8) (t:=2) (u:=3) (s:=4) (v:=.slice none 0 0) (v':=.int .i64 (((toksOf t).2.2:Nat):Int)) (v'':=.int .i64 ((11:Nat):Int)) rfl rfl rfl rfl ?_
        have hee:(endsS rd.rs).at_=x224.at_:=(congrArg RS.at_ hx225).symm
        exact .inr ⟨_,rfl,ps_far hy (hobF (by assumption)) (.inr (.inr (.inr (fun h=>h230 (hee.symm.trans h))))),H229.x⟩
       ·refine skip<|kn175 _ _<|kn171 _ _<|?_
        refine sr fun Q233 k234=>qt mv<|qt (addN (b:=1) rfl rfl)<|qt asg<|nl<|k234 _ _<|seqK fun Q235 kn236 kr237 ke238=>blockK fun Q239 kn240 kr241 kx242 kb243=>?_
        refine loopK (α:=Nat) (fun x=>[(0,.string t),(9,.pointer (some ⟨b19,0,none⟩)),(12,.int .i64 ((x:Nat):Int))]) (fun x w244=>w228=w244∧x≤t.size∧blankP ((bl t).drop x) false x=blankP ((bl t).drop ((toksOf t).2.2+1)) false ((toksOf t).2.2+1)) (fun x=>t.size-x) (((toksOf t).2.2+1)) ⟨rfl,rfl,rfl,trivial⟩ ?_ ?_
        ·refine ⟨rfl,?_⟩
         try dsimp only
         exact ⟨by omega,rfl⟩
        ·rintro τ245 p w246 ⟨rfl,⟨hp,hq⟩⟩
         try dsimp only at hp hq
         intro Q247 kn248 kr249 ke250
         refine seqK fun Q251 kn252 kr253 ke254=>?_
         refine sr fun Q255 k256=>qt mv<|qt mv<|qt (x_lenS rfl Tryz.underlying9 rfl)<|qt (x_lssN rfl rfl)<|nl<|k256 _ _<|cnd (p:=p<t.size) rfl (fun h257=>?_) (fun h257=>?_)
         ·refine skip<|kn252 _ _<|blockK fun Q258 kn259 kr260 kx261 kb262=>?_
          refine sr fun Q263 k264=>qt mv<|qt mv<|qt (x_indexS Tryz.underlying9 rfl rfl (by omega))<|qt asg<|nl<|k264 _ _<|seqK fun Q265 kn266 kr267 ke268=>?_
          refine sr fun Q269 k270=>qt mv<|qt (x_eqlN (b:=37) rfl rfl)<|nl<|k270 _ _<|cnd (p:=(ch t p)=37) rfl (fun h271=>?_) (fun h271=>?_)
          ·refine sr fun Q272 k273=>qt mv<|qt mv<|qt (x_sliceSLo Tryz.underlying9 rfl rfl (by omega))<|?_
           refine cl T.cf29 (Tryz.strings_IndexByte (t.extract p t.size) 10 _) rfl fun _ _ ⟨er,rfl⟩=>⟨_,er,?_⟩
           refine qt asg<|nl<|k273 _ _<|seqK fun Q275 kn276 kr277 ke278=>?_
           refine sr fun Q279 k280=>qt mv<|qt (x_lss rfl rfl)<|nl<|k280 _ _<|cnd (p:=(Lib.indexByte (t.extract p t.size).data.toList (10:Int).toNat.toUInt8)<0) rfl (fun h281=>?_) (fun h281=>?_)
           ·refine exit<|ke278 _ _ _<|ke268 _ _ _<|kx261 _ _ _ rfl<|ke250 _ _ _<|kb243 _ _<|kn236 _ _<|?_
            refine sr fun Q282 k283=>qt mv<|qt (x_nilCheck rfl)<|qt (x_field (o:=0) T.fa77_0 rfl)<|qt (x_load1 T.na23 rfl (H229.ld 0 rfl 0 rfl))<|qt asg<|qt asg<|qt asg<|nl<|k283 _ _<|ret<|leave3 (P:=Tryz.prog) (fn:=Tryz.f8) (t:=2) (u:=3) (s:=4) (v:=.slice x224.aq x224.rows.length x224.cq) (v':=.int .i64 ((0:Nat):Int)) (v'':=.int .i64 ((0:Nat):Int)) rfl rfl rfl rfl ?_
            have hee:(endsS rd.rs).at_=x224.at_:=(congrArg RS.at_ hx225).symm
            have hF:¬ ((toksOf t).2.1.k≠0∨t.size≤(toksOf t).2.2∨ch t (toksOf t).2.2≠63∨(endsS rd.rs).at_≠8):=fun h=>h.elim (fun h=>h (by have:=Decidable.of_not_not h215;omega)) fun h=>h.elim h218 fun h=>h.elim h221 fun h=>h (hee.trans (Decidable.of_not_not h230))
            exact .inl ⟨_,_,_,rfl,(ps_ok hy (hobF (by assumption)) hF rfl (by first | (rw [← bk_e hq (by omega)];omega) | (rw [(idx_blank hq (by omega) (by assumption)).1 (by assumption)];omega))).trans (by rw [← hx225];rfl),(H229.pick [1,3] (by decide))⟩
           ·refine skip<|kn276 _ _<|?_
            refine sr fun Q284 k285=>qt mv<|qt mv<|?_
            have hix:=(idx_blank hq (by omega) (by assumption)).2 (by assumption)
            refine qt (addC (((p+(Lib.indexByte (t.extract p t.size).data.toList (10:Int).toNat.toUInt8).toNat:Nat)):Int) rfl rfl (by omega) ⟨by omega,by omega⟩)<|qt asg<|nl<|k285 _ _<|exit<|ke268 _ _ _<|kb262 _ _<|kn248 _ ((p+(Lib.indexByte (t.extract p t.size).data.toList (10:Int).toNat.toUInt8).toNat)) _ ⟨rfl,rfl,rfl,trivial⟩ ⟨rfl,?_⟩ ?_
            ·try dsimp only
             exact ⟨by omega,hix.2.2⟩
            ·(try dsimp only);omega
          ·refine skip<|kn266 _ _<|seqK fun Q286 kn287 kr288 ke289=>?_
           refine sr fun Q290 k291=>qt mv<|qt (x_neqN (b:=32) rfl rfl)<|st_if (p:=(ch t p)≠32) (x_move rfl) (fun h292=>?_) (fun h292=>?_)
           ·refine st_gq 2 130 rfl rfl (by decide)<|qt mv<|st_gq 2 130 rfl rfl (by decide)<|qt (x_neqN (b:=9) rfl rfl)<|qt (pkT rfl)<|st_if (p:=(ch t p)≠9) (x_move rfl) (fun h293=>?_) (fun h293=>?_)
            ·refine st_gq 6 134 rfl rfl (by decide)<|qt mv<|st_gq 6 134 rfl rfl (by decide)<|qt (x_neqN (b:=10) rfl rfl)<|qt (pkT rfl)<|st_if (p:=(ch t p)≠10) (x_move rfl) (fun h294=>?_) (fun h294=>?_)
             ·refine st_gq 10 138 rfl rfl (by decide)<|qt mv<|st_gq 10 138 rfl rfl (by decide)<|qt (x_neqN (b:=13) rfl rfl)<|qt (pkT rfl)<|nl<|k291 _ _<|cnd (p:=(ch t p)≠13) rfl (fun h295=>?_) (fun h295=>?_)
              ·refine sr fun Q296 k297=>qt mv<|qt asg<|qt asg<|qt asg<|nl<|k297 _ _<|ret<|kr288 _ _<|kr260 _ _<|kr249 _ _<|kr241 _ _<|kr237 _ _<|leave3 (P:=Tryz.prog) (fn:=Tryz.f8) (t:=2) (u:=3) (s:=4) (v:=.slice none 0 0) (v':=.int .i64 ((p:Nat):Int)) (v'':=.int .i64 ((11:Nat):Int)) rfl rfl rfl rfl ?_
               have hee:(endsS rd.rs).at_=x224.at_:=(congrArg RS.at_ hx225).symm
               have hF:¬ ((toksOf t).2.1.k≠0∨t.size≤(toksOf t).2.2∨ch t (toksOf t).2.2≠63∨(endsS rd.rs).at_≠8):=fun h=>h.elim (fun h=>h (by have:=Decidable.of_not_not h215;omega)) fun h=>h.elim h218 fun h=>h.elim h221 fun h=>h (hee.trans (Decidable.of_not_not h230))
               exact .inr ⟨_,rfl,ps_tail hy (hobF (by assumption)) hF ((bk_o hq (by omega) rfl (by assumption) (by omega)).symm) (by omega),H229.x⟩
              ·refine skip<|kn287 _ _<|region<|qt mv<|qt (addN (b:=1) rfl rfl)<|qt asg<|nl<|kn259 _ _<|kn248 _ ((p+1)) _ ⟨rfl,rfl,rfl,trivial⟩ ⟨rfl,?_⟩ ?_
               ·try dsimp only
                exact ⟨by omega,bk_b hq (by omega) rfl (by assumption) (by omega)⟩
               ·(try dsimp only);omega
             ·refine st_gn 10 138 rfl rfl (by decide) rfl<|st_gn 10 138 rfl rfl (by decide) rfl<|qt (pkF rfl)<|nl<|k291 _ _<|cndF rfl<|skip<|kn287 _ _<|region<|qt mv<|qt (addN (b:=1) rfl rfl)<|qt asg<|nl<|kn259 _ _<|kn248 _ ((p+1)) _ ⟨rfl,rfl,rfl,trivial⟩ ⟨rfl,?_⟩ ?_
              ·try dsimp only
               exact ⟨by omega,bk_b hq (by omega) rfl (by assumption) (by omega)⟩
              ·(try dsimp only);omega
            ·refine st_gn 6 134 rfl rfl (by decide) rfl<|st_gn 6 134 rfl rfl (by decide) rfl<|qt (pkF rfl)<|qt mv<|st_gn 10 138 rfl rfl (by decide) rfl<|st_gn 10 138 rfl rfl (by decide) rfl<|qt (pkF rfl)<|nl<|k291 _ _<|cndF rfl<|skip<|kn287 _ _<|region<|qt mv<|qt (addN (b:=1) rfl rfl)<|qt asg<|nl<|kn259 _ _<|kn248 _ ((p+1)) _ ⟨rfl,rfl,rfl,trivial⟩ ⟨rfl,?_⟩ ?_
             ·try dsimp only
              exact ⟨by omega,bk_b hq (by omega) rfl (by assumption) (by omega)⟩
             ·(try dsimp only);omega
           ·refine st_gn 2 130 rfl rfl (by decide) rfl<|st_gn 2 130 rfl rfl (by decide) rfl<|qt (pkF rfl)<|qt mv<|st_gn 6 134 rfl rfl (by decide) rfl<|st_gn 6 134 rfl rfl (by decide) rfl<|qt (pkF rfl)<|qt mv<|st_gn 10 138 rfl rfl (by decide) rfl<|st_gn 10 138 rfl rfl (by decide) rfl<|qt (pkF rfl)<|nl<|k291 _ _<|cndF rfl<|skip<|kn287 _ _<|region<|qt mv<|qt (addN (b:=1) rfl rfl)<|qt asg<|nl<|kn259 _ _<|kn248 _ ((p+1)) _ ⟨rfl,rfl,rfl,trivial⟩ ⟨rfl,?_⟩ ?_
            ·try dsimp only
             exact ⟨by omega,bk_b hq (by omega) rfl (by assumption) (by omega)⟩
            ·(try dsimp only);omega
         ·refine exit<|ke254 _ _ _<|ke250 _ _ _<|kb243 _ _<|kn236 _ _<|?_
          refine sr fun Q298 k299=>qt mv<|qt (x_nilCheck rfl)<|qt (x_field (o:=0) T.fa77_0 rfl)<|qt (x_load1 T.na23 rfl (H229.ld 0 rfl 0 rfl))<|qt asg<|qt asg<|qt asg<|nl<|k299 _ _<|ret<|leave3 (P:=Tryz.prog) (fn:=Tryz.f8) (t:=2) (u:=3) (s:=4) (v:=.slice x224.aq x224.rows.length x224.cq) (v':=.int .i64 ((0:Nat):Int)) (v'':=.int .i64 ((0:Nat):Int)) rfl rfl rfl rfl ?_
          have hee:(endsS rd.rs).at_=x224.at_:=(congrArg RS.at_ hx225).symm
          have hF:¬ ((toksOf t).2.1.k≠0∨t.size≤(toksOf t).2.2∨ch t (toksOf t).2.2≠63∨(endsS rd.rs).at_≠8):=fun h=>h.elim (fun h=>h (by have:=Decidable.of_not_not h215;omega)) fun h=>h.elim h218 fun h=>h.elim h221 fun h=>h (hee.trans (Decidable.of_not_not h230))
          exact .inl ⟨_,_,_,rfl,(ps_ok hy (hobF (by assumption)) hF rfl (by first | (rw [← bk_e hq (by omega)];omega) | (rw [(idx_blank hq (by omega) (by assumption)).1 (by assumption)];omega))).trans (by rw [← hx225];rfl),(H229.pick [1,3] (by decide))⟩
end Go.Proofs.YtljfgmedbjlkaaaGreat
namespace Go.Proofs.YtljfgmedbjlkaaaGreat
open Go.RowKit Go.Eng Go.QP
/-- a literal's terms, where they lie -/
abbrev RowM (h:Array Obj) (x:Rw):Prop:=Srm eT h x.2.1 x.1.args.length x.2.2 x.1.args
/-- literals that are read -/
def Lits (h:Array Obj) (a:Option Addr) (m c:Nat) (rows:List Rw):Prop:=Srm eL h a m c rows∧∀ i,i<m→RowM h (el rows i)
theorem Lits.own {S:Nat→Prop} {w0 w:World} {L:List Ch} {a:Option Addr} {m c:Nat} {rows:List Rw} (H:Hp S w0 w L) (i j:Nat) (hi:L[i]?=some (cQ 37 eL a m c rows)) (hj:L[j]?=some (cF m fun k=>pL (el rows k))):Lits w.heap a m c rows:=
 ⟨H.srQ i hi,fun k hk=>OwnQ.src ((H.at j hj).1 k hk)⟩
end Go.Proofs.YtljfgmedbjlkaaaGreat
