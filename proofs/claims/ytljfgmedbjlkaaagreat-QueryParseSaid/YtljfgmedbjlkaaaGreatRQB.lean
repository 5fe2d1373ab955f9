/- Sums and products of bytes. -/
import Derived.Test.YtljfgmedbjlkaaaGreatVA
import Derived.Test.YtljfgmedbjlkaaaGreatQA
import Derived.Test.YtljfgmedbjlkaaaGreatV3
import Derived.Test.YtljfgmedbjlkaaaGreatQV
import Derived.Test.YtljfgmedbjlkaaaGreatRQA
import Derived.Test.YtljfgmedbjlkaaaGreatProg
namespace Go.Eng
open Go.RowKit
section
variable {P:Program} {n:Nat} {σ:Nat→Value} {w:World} {ty t t':TypeId} {x y z:Operand}
theorem x_add8 {a b c:Nat} (hx:ev n σ x= .int .u8 (a:Int)) (hy:ev n σ y= .int .u8 (b:Int)) (hc:a+b=c) (h:c<256):Ex P (ev n σ) w (.binOp .add t x y t') ty (.int .u8 ((c:Nat):Int)):=by
 intro _ _ _ _
 subst hc
 have:IntKind.u8.wrap ((a:Int)+(b:Int))=((a+b:Nat):Int):=by simp [IntKind.wrap,IntKind.bits,IntKind.signed];omega
 simp [execOp,hx,hy,eqGuard,binOp,Op.intArith,this]
theorem x_mul8 {a b c:Nat} (hx:ev n σ x= .int .u8 (a:Int)) (hy:ev n σ y= .int .u8 (b:Int)) (hc:a * b=c) (h:c<256):Ex P (ev n σ) w (.binOp .mul t x y t') ty (.int .u8 ((c:Nat):Int)):=by
 intro _ _ _ _
 subst hc
 have:IntKind.u8.wrap ((a:Int) * (b:Int))=((a * b:Nat):Int):=by rw [← Int.natCast_mul];simp [IntKind.wrap,IntKind.bits,IntKind.signed];omega
 simp [execOp,hx,hy,eqGuard,binOp,Op.intArith,this]
end
section
theorem leaveCTT {P:Program} {fn:Func} {R:Ending→World→Prop} {n:Nat} {σ:Nat→Value} {w:World} {u T b o s r:Nat} {cs:List Value} {v' v'':Value} (hr:fn.results=#[.cell u T,.tmp s,.tmp r]) (hA:AG P T cs.length) (hu:ev n σ (.tmp u)= .pointer (some ⟨b,o,none⟩)) (hc:Cells w.heap b o cs) (hs:ev n σ (.tmp s)=v') (hq:ev n σ (.tmp r)=v'')
  (h:R (.returned (.tuple #[.agg cs.toArray,v',v''])) w):bodyPost P fn R .ret (F n σ []) w:=by
 refine ⟨rfl,.tuple #[.agg cs.toArray,v',v''],?_,h⟩
 have h1:(F n σ []).tmps[u]?.getD undef= .pointer (some ⟨b,o,none⟩):=by rw [← Array.getD_eq_getD_getElem?,← hu,← F_eval n σ []];rfl
 have g2:(F n σ []).tmps[s]?.getD undef=v':=by rw [← Array.getD_eq_getD_getElem?,← hs,← F_eval n σ []];rfl
 have g3:(F n σ []).tmps[r]?.getD undef=v'':=by rw [← Array.getD_eq_getD_getElem?,← hq,← F_eval n σ []];rfl
 obtain ⟨h2,h3⟩:=hA w
 have h4:=run_loadCellsFrom (P:=P) hc cs.length 0 #[] (by omega)
 simp only [List.drop_zero,Array.empty_append] at h4
 simp [results,hr,h1,g2,g3,asAddr,loadVar,h2,h3,loadCells,h4]
end
end Go.Eng
namespace Go.Proofs.YtljfgmedbjlkaaaGreat
open Go.RowKit Go.Eng Go.QP
theorem T.fa130_1:FA Tryz.prog 130 1 1:=fun _ _=>by kernel_rfl
theorem T.fa130_0:FA Tryz.prog 130 0 0:=fun _ _=>by kernel_rfl
theorem T.fa130_2:FA Tryz.prog 130 2 2:=fun _ _=>by kernel_rfl
theorem T.sz4:SZ Tryz.prog 4 1:=fun _=>by kernel_rfl
theorem T.cf63:CF Tryz.prog 63:=fun _ _=>by kernel_rfl
theorem end63 (t:ByteArray) (S:Nat→Prop) (bb a:Nat) (bd:Bool) (w0:World) (Hx:Hp S w0 w0 [RdC bb t a bd]) (hs:t.size≤68719476736) (ha:a≤t.size) :
  Calls Tryz.prog 63 #[.pointer (some ⟨bb,0,none⟩)] w0 fun e w'=>e= .returned (.bool (decide (t.size≤a)))∧Hp S w0 w' [RdC bb t a bd]:=by
 have H0:Hp S w0 w0 [RdC bb t a bd]:=Hx
 refine enter Tryz.func63 rfl 13 Tryz.ntmps63 rfl<|?_
 refine sr fun Q1 k2=>qt asg<|nl<|k2 _ _<|seqK fun Q3 kn4 kr5 ke6=>regionD1 [3,7] [0,1,2,3,4,5,6,7,8,9,10] (.one 0 (.one 1 (.one 2 (.one 3 (.one 4 (.one 5 (.one 6 (.one 7 (.one 8 (.one 9 (.one 10 .done))))))))))) (by kernel_rfl) (by kernel_rfl) fun w7 x8 s9=>?_
 have H10:=H0.ext x8
 have S11:Ext w7 w7:=Below.refl _ _
 refine d_q rfl rfl (fun _=>mv)<|d_q rfl rfl (fun _=>x_nilCheck rfl)<|d_q rfl rfl (fun _=>x_field (o:=0) T.fa130_1 rfl)<|d_l rfl rfl rfl (fun _ y12=>x_load1 T.na3 rfl ((H10.ld 0 rfl 1 rfl).ext y12))<|d_q rfl rfl (fun _=>mv)<|d_q rfl rfl (fun _=>x_nilCheck rfl)<|d_q rfl rfl (fun _=>x_field (o:=0) T.fa130_0 rfl)<|d_l rfl rfl rfl (fun _ y13=>x_load1 T.na9 rfl ((H10.ld 0 rfl 0 rfl).ext y13))<|d_q rfl rfl (fun _=>x_lenS rfl Tryz.underlying9 rfl)<|d_q rfl rfl (fun _=>x_geqN rfl rfl)<|d_q rfl rfl (fun _=>asg)<|d_done<|kn4 _ _<|ret<|leave1 (P:=Tryz.prog) (fn:=Tryz.f63) (t:=2) (v:=.bool (decide (t.size≤a))) rfl rfl<|?_
 exact ⟨congrArg Ending.returned (dq (q:=t.size≤a) (by omega)),(H10.pick [0] (by decide))⟩
theorem stop64 (t:ByteArray) (S:Nat→Prop) (bb a:Nat) (bd:Bool) (w0:World) (Hx:Hp S w0 w0 [RdC bb t a bd]) (hs:t.size≤68719476736) (ha:a≤t.size) :
  Calls Tryz.prog 64 #[.pointer (some ⟨bb,0,none⟩),.int .i64 ((a:Nat):Int)] w0 fun e w'=>e= .returned (.tuple #[])∧Hp S w0 w' [RdC bb t a true]:=by
 have H0:Hp S w0 w0 [RdC bb t a bd]:=Hx
 refine enter Tryz.func64 rfl 16 Tryz.ntmps64 rfl<|?_
 refine sr fun Q1 k2=>qt mv<|qt (x_nilCheck rfl)<|qt (x_field (o:=0) T.fa130_2 rfl)<|qt (x_load1 T.na4 rfl (H0.ld 0 rfl 2 rfl))<|qt (x_notP rfl)<|nl<|k2 _ _<|cnd (p:=¬ (bd=true)) rfl (fun h3=>?_) (fun h3=>?_)
 ·refine sr fun Q4 k5=>qt mv<|qt (x_nilCheck rfl)<|qt (x_field (o:=0) T.fa130_2 rfl)<|?_
  refine st_s<|Est (v:=.bool true) H0 0 T.sz4 rfl rfl rfl rfl rfl rfl fun w6 H7=>nl<|k5 _ _<|region<|qt mv<|qt mv<|qt (x_nilCheck rfl)<|qt (x_field (o:=0) T.fa130_1 rfl)<|?_
  refine st_s<|Est (v:=.int .i64 ((a:Nat):Int)) H7 0 T.sz3 rfl rfl rfl rfl rfl rfl fun w8 H9=>nl<|leave0' (P:=Tryz.prog) (fn:=Tryz.f64) rfl<|?_
  exact ⟨rfl,(H9.pick [0] (by decide))⟩
 ·refine skip<|leave0' (P:=Tryz.prog) (fn:=Tryz.f64) rfl<|?_
  have hb:bd=true:=by simpa using h3
  subst hb
  exact ⟨rfl,(H0.pick [0] (by decide))⟩
theorem peek115 (t:ByteArray) (S:Nat→Prop) (bb a:Nat) (bd:Bool) (w0:World) (Hx:Hp S w0 w0 [RdC bb t a bd]) (hs:t.size≤68719476736) (ha:a≤t.size) :
  Calls Tryz.prog 115 #[.pointer (some ⟨bb,0,none⟩)] w0 fun e w'=>e= .returned (.int .u8 ((pk t a:Nat):Int))∧Hp S w0 w' [RdC bb t a bd]:=by
 have H0:Hp S w0 w0 [RdC bb t a bd]:=Hx
 refine enter Tryz.func115 rfl 14 Tryz.ntmps115 rfl<|?_
 refine sr fun Q1 k2=>qt asg<|nl<|k2 _ _<|seqK fun Q3 kn4 kr5 ke6=>?_
 refine sr fun Q7 k8=>qt mv<|?_
 have H10:Hp S w0 w0 ([RdC bb t a bd]++[]):=(H0.pick [0] (by decide))
 refine cl T.cf63 (end63 t _ bb a bd _ H10.startL hs (by omega)) rfl fun _ w11 ⟨er,K9⟩=>⟨_,er,?_⟩
 have H12:=H10.callL K9
 refine nl<|k8 _ _<|cnd (p:=t.size≤a) rfl (fun h13=>?_) (fun h13=>?_)
 ·refine sr fun Q14 k15=>qt asg<|nl<|k15 _ _<|ret<|kr5 _ _<|leave1 (P:=Tryz.prog) (fn:=Tryz.f115) (t:=2) (v:=.int .u8 ((0:Nat):Int)) rfl rfl<|?_
  exact ⟨congrArg (fun z:Nat=>Ending.returned (.int .u8 (z:Int))) (by first | exact (hd_off (by omega)).symm | exact (hd_at (by omega)).symm),(H12.pick [0] (by decide))⟩
 ·refine skip<|kn4 _ _<|seqK fun Q16 kn17 kr18 ke19=>regionD1 [3,7] [0,1,2,3,4,5,6,7,8,9] (.one 0 (.one 1 (.one 2 (.one 3 (.one 4 (.one 5 (.one 6 (.one 7 (.one 8 (.one 9 .done)))))))))) (by kernel_rfl) (by kernel_rfl) fun w20 x21 s22=>?_
  have H23:=H12.ext x21
  have S24:Ext w20 w20:=Below.refl _ _
  refine d_q rfl rfl (fun _=>mv)<|d_q rfl rfl (fun _=>x_nilCheck rfl)<|d_q rfl rfl (fun _=>x_field (o:=0) T.fa130_0 rfl)<|d_l rfl rfl rfl (fun _ y25=>x_load1 T.na9 rfl ((H23.ld 0 rfl 0 rfl).ext y25))<|d_q rfl rfl (fun _=>mv)<|d_q rfl rfl (fun _=>x_nilCheck rfl)<|d_q rfl rfl (fun _=>x_field (o:=0) T.fa130_1 rfl)<|d_l rfl rfl rfl (fun _ y26=>x_load1 T.na3 rfl ((H23.ld 0 rfl 1 rfl).ext y26))<|d_q rfl rfl (fun _=>x_indexS Tryz.underlying9 rfl rfl (by omega))<|d_q rfl rfl (fun _=>asg)<|d_done<|kn17 _ _<|ret<|leave1 (P:=Tryz.prog) (fn:=Tryz.f115) (t:=2) (v:=.int .u8 (((ch t a):Nat):Int)) rfl rfl<|?_
  exact ⟨congrArg (fun z:Nat=>Ending.returned (.int .u8 (z:Int))) (by first | exact (hd_off (by omega)).symm | exact (hd_at (by omega)).symm),(H23.pick [0] (by decide))⟩
end Go.Proofs.YtljfgmedbjlkaaaGreat
namespace Go.Proofs.YtljfgmedbjlkaaaGreat
open Go.RowKit Go.Eng Go.QP
theorem T.cf115:CF Tryz.prog 115:=fun _ _=>by kernel_rfl
theorem T.cf64:CF Tryz.prog 64:=fun _ _=>by kernel_rfl
theorem T.cf114:CF Tryz.prog 114:=fun _ _=>by kernel_rfl
theorem blank114 (c:Nat) (w0:World) :
  Calls Tryz.prog 114 #[.int .u8 (c:Int)] w0 fun e w'=>e= .returned (.bool (decide (Bk c)))∧w0=w':=by
 refine enter Tryz.func114 rfl 17 Tryz.ntmps114 rfl<|?_
 refine sr fun Q1 k2=>qt asg<|nl<|k2 _ _<|?_
 refine sr fun Q3 k4=>qt mv<|qt (x_eqlN (b:=32) rfl rfl)<|st_if (p:=c=32) (x_move rfl) (fun h5=>?_) (fun h5=>?_)
 ·exact st_gn 2 5 rfl rfl (by decide) rfl<|st_gn 2 5 rfl rfl (by decide) rfl<|qt (pkT rfl)<|qt mv<|st_gn 6 9 rfl rfl (by decide) rfl<|st_gn 6 9 rfl rfl (by decide) rfl<|qt (pkT rfl)<|qt mv<|st_gn 10 13 rfl rfl (by decide) rfl<|st_gn 10 13 rfl rfl (by decide) rfl<|qt (pkT rfl)<|qt asg<|nl<|k4 _ _<|ret<|leave1 (P:=Tryz.prog) (fn:=Tryz.f114) (t:=2) (v:=.bool true) rfl rfl<|⟨congrArg Ending.returned (dT (p:=Bk c) (by unfold Bk;omega)),rfl⟩
 ·refine st_gq 2 5 rfl rfl (by decide)<|qt mv<|st_gq 2 5 rfl rfl (by decide)<|qt (x_eqlN (b:=9) rfl rfl)<|qt (pkF rfl)<|st_if (p:=c=9) (x_move rfl) (fun h6=>?_) (fun h6=>?_)
  ·exact st_gn 6 9 rfl rfl (by decide) rfl<|st_gn 6 9 rfl rfl (by decide) rfl<|qt (pkT rfl)<|qt mv<|st_gn 10 13 rfl rfl (by decide) rfl<|st_gn 10 13 rfl rfl (by decide) rfl<|qt (pkT rfl)<|qt asg<|nl<|k4 _ _<|ret<|leave1 (P:=Tryz.prog) (fn:=Tryz.f114) (t:=2) (v:=.bool true) rfl rfl<|⟨congrArg Ending.returned (dT (p:=Bk c) (by unfold Bk;omega)),rfl⟩
  ·refine st_gq 6 9 rfl rfl (by decide)<|qt mv<|st_gq 6 9 rfl rfl (by decide)<|qt (x_eqlN (b:=10) rfl rfl)<|qt (pkF rfl)<|st_if (p:=c=10) (x_move rfl) (fun h7=>?_) (fun h7=>?_)
   ·exact st_gn 10 13 rfl rfl (by decide) rfl<|st_gn 10 13 rfl rfl (by decide) rfl<|qt (pkT rfl)<|qt asg<|nl<|k4 _ _<|ret<|leave1 (P:=Tryz.prog) (fn:=Tryz.f114) (t:=2) (v:=.bool true) rfl rfl<|⟨congrArg Ending.returned (dT (p:=Bk c) (by unfold Bk;omega)),rfl⟩
   ·exact st_gq 10 13 rfl rfl (by decide)<|qt mv<|st_gq 10 13 rfl rfl (by decide)<|qt (x_eqlN (b:=13) rfl rfl)<|qt (pkF rfl)<|qt asg<|nl<|k4 _ _<|ret<|leave1 (P:=Tryz.prog) (fn:=Tryz.f114) (t:=2) (v:=.bool (decide (c=13))) rfl rfl<|⟨congrArg Ending.returned (dq (q:=Bk c) (by unfold Bk;omega)),rfl⟩
theorem wordly192 (t:ByteArray) (S:Nat→Prop) (bb a:Nat) (bd:Bool) (w0:World) (Hx:Hp S w0 w0 [RdC bb t a bd]) (hs:t.size≤68719476736) (ha:a≤t.size) :
  Calls Tryz.prog 192 #[.pointer (some ⟨bb,0,none⟩)] w0 fun e w'=>e= .returned (.bool (decide (Wordly ((bl t).drop a))))∧Hp S w0 w' [RdC bb t a bd]:=by
 have H0:Hp S w0 w0 [RdC bb t a bd]:=Hx
 refine enter Tryz.func192 rfl 21 Tryz.ntmps192 rfl<|?_
 refine sr fun Q1 k2=>qt asg<|nl<|k2 _ _<|?_
 refine sr fun Q3 k4=>qt mv<|?_
 have H6:Hp S w0 w0 ([RdC bb t a bd]++[]):=(H0.pick [0] (by decide))
 refine cl T.cf63 (end63 t _ bb a bd _ H6.startL hs (by omega)) rfl fun _ w7 ⟨er,K5⟩=>⟨_,er,?_⟩
 have H8:=H6.callL K5
 refine qt (x_notP rfl)<|st_if (p:=¬ (t.size≤a)) (x_move rfl) (fun h9=>?_) (fun h9=>?_)
 ·refine st_gq 3 6 rfl rfl (by decide)<|qt mv<|st_gq 3 6 rfl rfl (by decide)<|?_
  have H11:Hp S w0 w7 ([RdC bb t a bd]++[]):=(H8.pick [0] (by decide))
  refine cl T.cf115 (peek115 t _ bb a bd _ H11.startL hs (by omega)) rfl fun _ w12 ⟨er,K10⟩=>⟨_,er,?_⟩
  have H13:=H11.callL K10
  refine st_gq 3 6 rfl rfl (by decide)<|?_
  refine cl T.cf187 (small187 _ _) rfl fun _ _ ⟨er,rfl⟩=>⟨_,er,?_⟩
  refine st_gq 3 6 rfl rfl (by decide)<|st_if (p:=Sm (pk t a)) (x_move rfl) (fun h15=>?_) (fun h15=>?_)
  ·refine st_gn 7 10 rfl rfl (by decide) rfl<|st_gn 7 10 rfl rfl (by decide) rfl<|st_gn 7 10 rfl rfl (by decide) rfl<|st_gq 3 6 rfl rfl (by decide)<|qt (pkT rfl)<|st_gq 3 6 rfl rfl (by decide)<|qt mv<|st_gn 12 15 rfl rfl (by decide) rfl<|st_gn 12 15 rfl rfl (by decide) rfl<|st_gn 12 15 rfl rfl (by decide) rfl<|st_gq 3 6 rfl rfl (by decide)<|qt (pkT rfl)<|qt (pkT rfl)<|qt asg<|nl<|k4 _ _<|ret<|leave1 (P:=Tryz.prog) (fn:=Tryz.f192) (t:=2) (v:=.bool true) rfl rfl<|?_
   exact ⟨congrArg Ending.returned (dT (p:=Wordly ((bl t).drop a)) (by first | exact .inl (by assumption) | exact .inr (.inl (by assumption)) | exact .inr (.inr (by assumption)))),(H13.pick [0] (by decide))⟩
  ·refine st_gq 7 10 rfl rfl (by decide)<|qt mv<|st_gq 7 10 rfl rfl (by decide)<|?_
   have H17:Hp S w0 w12 ([RdC bb t a bd]++[]):=(H13.pick [0] (by decide))
   refine cl T.cf115 (peek115 t _ bb a bd _ H17.startL hs (by omega)) rfl fun _ w18 ⟨er,K16⟩=>⟨_,er,?_⟩
   have H19:=H17.callL K16
   refine st_gq 7 10 rfl rfl (by decide)<|?_
   refine cl T.cf263 (great263 _ _) rfl fun _ _ ⟨er,rfl⟩=>⟨_,er,?_⟩
   refine st_gq 3 6 rfl rfl (by decide)<|qt (pkF rfl)<|st_gq 3 6 rfl rfl (by decide)<|st_if (p:=Gr (pk t a)) (x_move rfl) (fun h21=>?_) (fun h21=>?_)
   ·refine st_gn 12 15 rfl rfl (by decide) rfl<|st_gn 12 15 rfl rfl (by decide) rfl<|st_gn 12 15 rfl rfl (by decide) rfl<|st_gq 3 6 rfl rfl (by decide)<|qt (pkT rfl)<|qt (pkT rfl)<|qt asg<|nl<|k4 _ _<|ret<|leave1 (P:=Tryz.prog) (fn:=Tryz.f192) (t:=2) (v:=.bool true) rfl rfl<|?_
    exact ⟨congrArg Ending.returned (dT (p:=Wordly ((bl t).drop a)) (by first | exact .inl (by assumption) | exact .inr (.inl (by assumption)) | exact .inr (.inr (by assumption)))),(H19.pick [0] (by decide))⟩
   ·refine st_gq 12 15 rfl rfl (by decide)<|qt mv<|st_gq 12 15 rfl rfl (by decide)<|?_
    have H23:Hp S w0 w18 ([RdC bb t a bd]++[]):=(H19.pick [0] (by decide))
    refine cl T.cf115 (peek115 t _ bb a bd _ H23.startL hs (by omega)) rfl fun _ w24 ⟨er,K22⟩=>⟨_,er,?_⟩
    have H25:=H23.callL K22
    refine st_gq 12 15 rfl rfl (by decide)<|?_
    refine cl T.cf264 (digit264 _ _) rfl fun _ _ ⟨er,rfl⟩=>⟨_,er,?_⟩
    refine st_gq 3 6 rfl rfl (by decide)<|qt (pkF rfl)<|qt (pkT rfl)<|qt asg<|nl<|k4 _ _<|ret<|leave1 (P:=Tryz.prog) (fn:=Tryz.f192) (t:=2) (v:=.bool (decide (Dg (pk t a)))) rfl rfl<|?_
    exact ⟨congrArg Ending.returned (dq (q:=Wordly ((bl t).drop a)) (by first | exact ⟨fun h=>.inr (.inr h),fun h=>h.elim (fun h=>absurd h (by assumption)) fun h=>h.elim (fun h=>absurd h (by assumption)) id⟩ | exact ⟨fun h=>.inr (.inl h),fun h=>h.elim (fun h=>absurd h (by assumption)) fun h=>h.elim id (fun h=>absurd h (by assumption))⟩)),(H25.pick [0] (by decide))⟩
 ·refine st_gn 3 6 rfl rfl (by decide) rfl<|st_gn 3 6 rfl rfl (by decide) rfl<|st_gn 3 6 rfl rfl (by decide) rfl<|st_gn 3 6 rfl rfl (by decide) rfl<|st_gu 7 10 rfl rfl (by decide)<|st_gu 7 10 rfl rfl (by decide)<|st_gu 7 10 rfl rfl (by decide)<|st_gn 3 6 rfl rfl (by decide) rfl<|st_gn 3 6 rfl rfl (by decide) rfl<|st_gu 12 15 rfl rfl (by decide)<|st_gu 12 15 rfl rfl (by decide)<|st_gu 12 15 rfl rfl (by decide)<|st_gn 3 6 rfl rfl (by decide) rfl<|qt (pkF rfl)<|qt asg<|nl<|k4 _ _<|ret<|leave1 (P:=Tryz.prog) (fn:=Tryz.f192) (t:=2) (v:=.bool false) rfl rfl<|?_
  exact ⟨congrArg Ending.returned (dF (p:=Wordly ((bl t).drop a)) (by first | (unfold Wordly;rw [hd_off (by omega)];decide) | (rintro (h | h | h) <;> contradiction))),(H8.pick [0] (by decide))⟩
theorem sign118 (t:ByteArray) (S:Nat→Prop) (bb a:Nat) (bd:Bool) (w0:World) (Hx:Hp S w0 w0 [RdC bb t a bd]) (hs:t.size≤68719476736) (ha:a≤t.size) (c:Nat) (hc:c≠0) :
  Calls Tryz.prog 118 #[.pointer (some ⟨bb,0,none⟩),.int .u8 ((c:Nat):Int)] w0 fun e w'=>∃ a' b',e= .returned (.tuple #[])∧Stp (sgR c t a) bd a () a' b'∧a'≤t.size∧Hp S w0 w' [RdC bb t a' b']:=by
 have H0:Hp S w0 w0 [RdC bb t a bd]:=Hx
 refine enter Tryz.func118 rfl 29 Tryz.ntmps118 rfl<|seqK fun Q1 kn2 kr3 ke4=>?_
 refine sr fun Q5 k6=>qt mv<|qt (x_nilCheck rfl)<|qt (x_field (o:=0) T.fa130_2 rfl)<|qt (x_load1 T.na4 rfl (H0.ld 0 rfl 2 rfl))<|nl<|k6 _ _<|cnd (p:=bd=true) rfl (fun h7=>?_) (fun h7=>?_)
 ·refine ret<|kr3 _ _<|leave0 (P:=Tryz.prog) (fn:=Tryz.f118) rfl<|?_
  exact ⟨a,bd,rfl,Stp.was (by assumption),by omega,(H0.pick [0] (by decide))⟩
 ·refine skip<|kn2 _ _<|seqK fun Q8 kn9 kr10 ke11=>?_
  refine sr fun Q12 k13=>qt mv<|?_
  have H15:Hp S w0 w0 ([RdC bb t a bd]++[]):=(H0.pick [0] (by decide))
  refine cl T.cf63 (end63 t _ bb a bd _ H15.startL hs (by omega)) rfl fun _ w16 ⟨er,K14⟩=>⟨_,er,?_⟩
  have H17:=H15.callL K14
  refine st_if (p:=t.size≤a) (x_move rfl) (fun h18=>?_) (fun h18=>?_)
  ·refine st_gn 2 10 rfl rfl (by decide) rfl<|st_gn 2 10 rfl rfl (by decide) rfl<|st_gn 2 10 rfl rfl (by decide) rfl<|st_gn 2 10 rfl rfl (by decide) rfl<|qt (pkT rfl)<|nl<|k13 _ _<|cndT rfl<|?_
   refine sr fun Q19 k20=>qt mv<|qt mv<|qt (x_nilCheck rfl)<|qt (x_field (o:=0) T.fa130_1 rfl)<|qt (x_load1 T.na3 rfl (H17.ld 0 rfl 1 rfl))<|?_
   have H22:Hp S w0 w16 ([RdC bb t a bd]++[]):=(H17.pick [0] (by decide))
   refine cl T.cf64 (stop64 t _ bb a bd _ H22.startL hs (by omega)) rfl fun _ w23 ⟨er,K21⟩=>⟨_,er,?_⟩
   have H24:=H22.callL K21
   refine nl<|k20 _ _<|ret<|kr10 _ _<|leave0 (P:=Tryz.prog) (fn:=Tryz.f118) rfl<|?_
   exact ⟨a,true,rfl,Stp.bad (if_neg (by first | omega | (have:=pk_off (t:=t) (a:=a) (by omega);omega))),by omega,(H24.pick [0] (by decide))⟩
  ·refine st_gq 2 10 rfl rfl (by decide)<|qt mv<|st_gq 2 10 rfl rfl (by decide)<|?_
   have H26:Hp S w0 w16 ([RdC bb t a bd]++[]):=(H17.pick [0] (by decide))
   refine cl T.cf115 (peek115 t _ bb a bd _ H26.startL hs (by omega)) rfl fun _ w27 ⟨er,K25⟩=>⟨_,er,?_⟩
   have H28:=H26.callL K25
   refine st_gq 2 10 rfl rfl (by decide)<|qt mv<|st_gq 2 10 rfl rfl (by decide)<|qt (x_neqN rfl rfl)<|qt (pkF rfl)<|nl<|k13 _ _<|cnd (p:=(pk t a)≠c) rfl (fun h29=>?_) (fun h29=>?_)
   ·refine sr fun Q30 k31=>qt mv<|qt mv<|qt (x_nilCheck rfl)<|qt (x_field (o:=0) T.fa130_1 rfl)<|qt (x_load1 T.na3 rfl (H28.ld 0 rfl 1 rfl))<|?_
    have H33:Hp S w0 w27 ([RdC bb t a bd]++[]):=(H28.pick [0] (by decide))
    refine cl T.cf64 (stop64 t _ bb a bd _ H33.startL hs (by omega)) rfl fun _ w34 ⟨er,K32⟩=>⟨_,er,?_⟩
    have H35:=H33.callL K32
    refine nl<|k31 _ _<|ret<|kr10 _ _<|leave0 (P:=Tryz.prog) (fn:=Tryz.f118) rfl<|?_
    exact ⟨a,true,rfl,Stp.bad (if_neg (by first | omega | (have:=pk_off (t:=t) (a:=a) (by omega);omega))),by omega,(H35.pick [0] (by decide))⟩
   ·refine skip<|kn9 _ _<|region<|qt mv<|qt (x_nilCheck rfl)<|qt (x_field (o:=0) T.fa130_1 rfl)<|qt (x_load1 T.na3 rfl (H28.ld 0 rfl 1 rfl))<|qt (addN (b:=1) rfl rfl)<|qt (x_nilCheck rfl)<|qt (x_field (o:=0) T.fa130_1 rfl)<|?_
    refine st_s<|Est (v:=.int .i64 (((a+1):Nat):Int)) H28 0 T.sz3 rfl rfl rfl rfl rfl rfl fun w36 H37=>nl<|leave0' (P:=Tryz.prog) (fn:=Tryz.f118) rfl<|?_
    exact ⟨(a+1),bd,rfl,Stp.goes (by assumption) (if_pos (by omega)),by omega,(H37.pick [0] (by decide))⟩
theorem skip60 (t:ByteArray) (S:Nat→Prop) (bb a:Nat) (bd:Bool) (w0:World) (Hx:Hp S w0 w0 [RdC bb t a bd]) (hs:t.size≤68719476736) (ha:a≤t.size) :
  Calls Tryz.prog 60 #[.pointer (some ⟨bb,0,none⟩)] w0 fun e w'=>∃ a' b',e= .returned (.tuple #[])∧Stp (skR t a) bd a () a' b'∧a'≤t.size∧Hp S w0 w' [RdC bb t a' b']:=by
 have H0:Hp S w0 w0 [RdC bb t a bd]:=Hx
 refine enter Tryz.func60 rfl 40 Tryz.ntmps60 rfl<|blockK fun Q1 kn2 kr3 kx4 kb5=>?_
 refine loopK (α:=Nat) (fun x=>[(0,.pointer (some ⟨bb,0,none⟩))]) (fun x w6=>Hp S w0 w6 [RdC bb t x bd]∧a≤x∧x≤t.size∧(bd=true→x=a)∧sk ((bl t).drop x) x=sk ((bl t).drop a) a) (fun x=>t.size-x) (a) ⟨rfl,trivial⟩ ?_ ?_
 ·refine ⟨H0,?_⟩
  try dsimp only
  exact ⟨Nat.le_refl _,ha,fun _=>rfl,rfl⟩
 ·rintro τ7 i w8 ⟨hx9,⟨hai,hi,hbt,hq⟩⟩
  try dsimp only at hai hi hbt hq
  have hz10:=hx9.le
  intro Q11 kn12 kr13 ke14
  refine seqK fun Q15 kn16 kr17 ke18=>?_
  refine sr fun Q19 k20=>qt mv<|qt (x_nilCheck rfl)<|qt (x_field (o:=0) T.fa130_2 rfl)<|qt (x_load1 T.na4 rfl (hx9.ld 0 rfl 2 rfl))<|qt (x_notP rfl)<|st_if (p:=¬ (bd=true)) (x_move rfl) (fun h21=>?_) (fun h21=>?_)
  ·refine st_gq 5 7 rfl rfl (by decide)<|qt mv<|st_gq 5 7 rfl rfl (by decide)<|?_
   have H23:Hp S w0 w8 ([RdC bb t i bd]++[]):=(hx9.pick [0] (by decide))
   refine cl T.cf63 (end63 t _ bb i bd _ H23.startL hs (by omega)) rfl fun _ w24 ⟨er,K22⟩=>⟨_,er,?_⟩
   have H25:=H23.callL K22
   refine st_gq 5 7 rfl rfl (by decide)<|qt (x_notP rfl)<|qt (pkT rfl)<|nl<|k20 _ _<|cnd (p:=¬ (t.size≤i)) rfl (fun h26=>?_) (fun h26=>?_)
   ·refine skip<|kn16 _ _<|blockK fun Q27 kn28 kr29 kx30 kb31=>?_
    refine sr fun Q32 k33=>qt mv<|?_
    have H35:Hp S w0 w24 ([RdC bb t i bd]++[]):=(H25.pick [0] (by decide))
    refine cl T.cf115 (peek115 t _ bb i bd _ H35.startL hs (by omega)) rfl fun _ w36 ⟨er,K34⟩=>⟨_,er,?_⟩
    have H37:=H35.callL K34
    refine cl T.cf114 (blank114 _ _) rfl fun _ _ ⟨er,rfl⟩=>⟨_,er,?_⟩
    refine nl<|k33 _ _<|cnd (p:=Bk (pk t i)) rfl (fun h39=>?_) (fun h39=>?_)
    ·refine region<|qt mv<|qt (x_nilCheck rfl)<|qt (x_field (o:=0) T.fa130_1 rfl)<|qt (x_load1 T.na3 rfl (H37.ld 0 rfl 1 rfl))<|qt (addN (b:=1) rfl rfl)<|qt (x_nilCheck rfl)<|qt (x_field (o:=0) T.fa130_1 rfl)<|?_
     refine st_s<|Est (v:=.int .i64 (((i+1):Nat):Int)) H37 0 T.sz3 rfl rfl rfl rfl rfl rfl fun w40 H41=>nl<|kn28 _ _<|?_
     refine kn12 _ ((i+1)) _ ⟨rfl,trivial⟩ ⟨(H41.pick [0] (by decide)),?_⟩ ?_
     ·try dsimp only
      exact ⟨by omega,by omega,fun h=>absurd h (by assumption),sk_step hq (by omega) (by assumption)⟩
     ·(try dsimp only);omega
    ·refine sr fun Q42 k43=>qt mv<|?_
     have H45:Hp S w0 w36 ([RdC bb t i bd]++[]):=(H37.pick [0] (by decide))
     refine cl T.cf115 (peek115 t _ bb i bd _ H45.startL hs (by omega)) rfl fun _ w46 ⟨er,K44⟩=>⟨_,er,?_⟩
     have H47:=H45.callL K44
     refine qt (x_eqlN (b:=37) rfl rfl)<|nl<|k43 _ _<|cnd (p:=(pk t i)=37) rfl (fun h48=>?_) (fun h48=>?_)
     ·refine blockK fun Q49 kn50 kr51 kx52 kb53=>?_
      refine loopK (α:=Nat) (fun x=>[(0,.pointer (some ⟨bb,0,none⟩))]) (fun x w54=>Hp S w0 w54 [RdC bb t x bd]∧i≤x∧x≤t.size∧(x≠i∨pk t x=37)∧blankP ((bl t).drop x) true x=sk ((bl t).drop i) i) (fun x=>t.size-x) (i) ⟨rfl,trivial⟩ ?_ ?_
      ·refine ⟨H47,?_⟩
       try dsimp only
       exact ⟨Nat.le_refl _,hi,.inr (by assumption),sk_enter (by omega) (by omega)⟩
      ·rintro τ55 j w56 ⟨hx57,⟨hij,hj,hne,hqj⟩⟩
       try dsimp only at hij hj hne hqj
       have hz58:=hx57.le
       intro Q59 kn60 kr61 ke62
       refine seqK fun Q63 kn64 kr65 ke66=>?_
       refine sr fun Q67 k68=>qt mv<|?_
       have H70:Hp S w0 w56 ([RdC bb t j bd]++[]):=(hx57.pick [0] (by decide))
       refine cl T.cf63 (end63 t _ bb j bd _ H70.startL hs (by omega)) rfl fun _ w71 ⟨er,K69⟩=>⟨_,er,?_⟩
       have H72:=H70.callL K69
       refine qt (x_notP rfl)<|st_if (p:=¬ (t.size≤j)) (x_move rfl) (fun h73=>?_) (fun h73=>?_)
       ·refine st_gq 3 28 rfl rfl (by decide)<|qt mv<|st_gq 3 28 rfl rfl (by decide)<|?_
        have H75:Hp S w0 w71 ([RdC bb t j bd]++[]):=(H72.pick [0] (by decide))
        refine cl T.cf115 (peek115 t _ bb j bd _ H75.startL hs (by omega)) rfl fun _ w76 ⟨er,K74⟩=>⟨_,er,?_⟩
        have H77:=H75.callL K74
        refine st_gq 3 28 rfl rfl (by decide)<|qt (x_neqN (b:=10) rfl rfl)<|qt (pkT rfl)<|nl<|k68 _ _<|cnd (p:=(pk t j)≠10) rfl (fun h78=>?_) (fun h78=>?_)
        ·refine skip<|kn64 _ _<|blockK fun Q79 kn80 kr81 kx82 kb83=>region<|qt mv<|qt (x_nilCheck rfl)<|qt (x_field (o:=0) T.fa130_1 rfl)<|qt (x_load1 T.na3 rfl (H77.ld 0 rfl 1 rfl))<|qt (addN (b:=1) rfl rfl)<|qt (x_nilCheck rfl)<|qt (x_field (o:=0) T.fa130_1 rfl)<|?_
         refine st_s<|Est (v:=.int .i64 (((j+1):Nat):Int)) H77 0 T.sz3 rfl rfl rfl rfl rfl rfl fun w84 H85=>nl<|kn80 _ _<|?_
         refine kn60 _ ((j+1)) _ ⟨rfl,trivial⟩ ⟨(H85.pick [0] (by decide)),?_⟩ ?_
         ·try dsimp only
          exact ⟨by omega,by omega,.inl (by omega),sk_on hqj (by omega) (by assumption)⟩
         ·(try dsimp only);omega
        ·refine exit<|ke66 _ _ _<|ke62 _ _ _<|kb53 _ _<|kn28 _ _<|?_
         refine kn12 _ (j) _ ⟨rfl,trivial⟩ ⟨(H77.pick [0] (by decide)),?_⟩ ?_
         ·try dsimp only
          exact ⟨by omega,by omega,fun h=>absurd h (by assumption),(sk_rem hqj (fun _=>by omega)).trans hq⟩
         ·(try dsimp only);omega
       ·refine st_gn 3 28 rfl rfl (by decide) rfl<|st_gn 3 28 rfl rfl (by decide) rfl<|st_gn 3 28 rfl rfl (by decide) rfl<|qt (pkF rfl)<|nl<|k68 _ _<|cndF rfl<|exit<|ke66 _ _ _<|ke62 _ _ _<|kb53 _ _<|kn28 _ _<|?_
        refine kn12 _ (j) _ ⟨rfl,trivial⟩ ⟨(H72.pick [0] (by decide)),?_⟩ ?_
        ·try dsimp only
         exact ⟨by omega,by omega,fun h=>absurd h (by assumption),(sk_rem hqj (fun _=>by omega)).trans hq⟩
        ·(try dsimp only);omega
     ·refine ret<|kr29 _ _<|kr13 _ _<|kr3 _ _<|leave0 (P:=Tryz.prog) (fn:=Tryz.f60) rfl<|?_
      exact ⟨i,bd,rfl,by first | exact sk_end hq (by assumption) (by omega) | exact sk_here hq (by assumption) (by omega) (by assumption) (by assumption) | exact sk_was hbt (by first | assumption | (simpa using h48)),by omega,(H47.pick [0] (by decide))⟩
   ·refine exit<|ke18 _ _ _<|ke14 _ _ _<|kb5 _ _<|leave0' (P:=Tryz.prog) (fn:=Tryz.f60) rfl<|?_
    exact ⟨i,bd,rfl,by first | exact sk_end hq (by assumption) (by omega) | exact sk_here hq (by assumption) (by omega) (by assumption) (by assumption) | exact sk_was hbt (by first | assumption | (simpa using h26)),by omega,(H25.pick [0] (by decide))⟩
  ·refine st_gn 5 7 rfl rfl (by decide) rfl<|st_gn 5 7 rfl rfl (by decide) rfl<|st_gn 5 7 rfl rfl (by decide) rfl<|qt (pkF rfl)<|nl<|k20 _ _<|cndF rfl<|exit<|ke18 _ _ _<|ke14 _ _ _<|kb5 _ _<|leave0' (P:=Tryz.prog) (fn:=Tryz.f60) rfl<|?_
   exact ⟨i,bd,rfl,by first | exact sk_end hq (by assumption) (by omega) | exact sk_here hq (by assumption) (by omega) (by assumption) (by assumption) | exact sk_was hbt (by first | assumption | (simpa using h21)),by omega,(hx9.pick [0] (by decide))⟩
end Go.Proofs.YtljfgmedbjlkaaaGreat
namespace Go.Proofs.YtljfgmedbjlkaaaGreat
open Go.RowKit Go.Eng Go.QP
theorem T.cf192:CF Tryz.prog 192:=fun _ _=>by kernel_rfl
theorem run188 (t:ByteArray) (S:Nat→Prop) (bb a:Nat) (bd:Bool) (w0:World) (Hx:Hp S w0 w0 [RdC bb t a bd]) (hs:t.size≤68719476736) (ha:a≤t.size) (hb:¬ bd=true) :
  Calls Tryz.prog 188 #[.pointer (some ⟨bb,0,none⟩)] w0 fun e w'=>∃ s a' b',e= .returned (.string s)∧Stp (runR ((bl t).drop a) a) bd a s a' b'∧a'≤t.size∧Hp S w0 w' [RdC bb t a' b']:=by
 have H0:Hp S w0 w0 [RdC bb t a bd]:=Hx
 refine enter Tryz.func188 rfl 46 Tryz.ntmps188 rfl<|?_
 refine sr fun Q1 k2=>qt asg<|nl<|k2 _ _<|?_
 refine sr fun Q3 k4=>qt mv<|qt (x_nilCheck rfl)<|qt (x_field (o:=0) T.fa130_1 rfl)<|qt (x_load1 T.na3 rfl (H0.ld 0 rfl 1 rfl))<|qt asg<|nl<|k4 _ _<|seqK fun Q5 kn6 kr7 ke8=>blockK fun Q9 kn10 kr11 kx12 kb13=>?_
 refine loopK (α:=Nat) (fun x=>[(0,.pointer (some ⟨bb,0,none⟩)),(3,.int .i64 ((a:Nat):Int))]) (fun x w14=>Hp S w0 w14 [RdC bb t x bd]∧WI t a false x) (fun x=>t.size-x) (a) ⟨rfl,rfl,trivial⟩ ?_ ?_
 ·refine ⟨H0,?_⟩
  try dsimp only
  exact WI.start ha
 ·rintro τ15 i w16 ⟨hx17,hwi⟩
  try dsimp only at hwi
  have hz18:=hx17.le
  intro Q19 kn20 kr21 ke22
  have hi:=hwi.2.1
  have hai:=hwi.1
  refine seqK fun Q23 kn24 kr25 ke26=>?_
  refine sr fun Q27 k28=>qt mv<|?_
  have H30:Hp S w0 w16 ([RdC bb t i bd]++[]):=(hx17.pick [0] (by decide))
  refine cl T.cf63 (end63 t _ bb i bd _ H30.startL hs (by omega)) rfl fun _ w31 ⟨er,K29⟩=>⟨_,er,?_⟩
  have H32:=H30.callL K29
  refine qt (x_notP rfl)<|st_if (p:=¬ (t.size≤i)) (x_move rfl) (fun h33=>?_) (fun h33=>?_)
  ·refine st_gq 3 11 rfl rfl (by decide)<|qt mv<|st_gq 3 11 rfl rfl (by decide)<|?_
   have H35:Hp S w0 w31 ([RdC bb t i bd]++[]):=(H32.pick [0] (by decide))
   refine cl T.cf115 (peek115 t _ bb i bd _ H35.startL hs (by omega)) rfl fun _ w36 ⟨er,K34⟩=>⟨_,er,?_⟩
   have H37:=H35.callL K34
   refine st_gq 3 11 rfl rfl (by decide)<|?_
   refine cl T.cf262 (goes262 _ _) rfl fun _ _ ⟨er,rfl⟩=>⟨_,er,?_⟩
   refine qt (pkT rfl)<|nl<|k28 _ _<|cnd (p:=Go.QP.Lt (pk t i)) rfl (fun h39=>?_) (fun h39=>?_)
   ·refine skip<|kn24 _ _<|blockK fun Q40 kn41 kr42 kx43 kb44=>seqK fun Q45 kn46 kr47 ke48=>?_
    refine sr fun Q49 k50=>qt mv<|qt (x_nilCheck rfl)<|qt (x_field (o:=0) T.fa130_1 rfl)<|qt (x_load1 T.na3 rfl (H37.ld 0 rfl 1 rfl))<|qt mv<|qt (x_sub rfl rfl ⟨by omega,by omega⟩)<|qt (x_eql rfl rfl)<|nl<|k50 _ _<|cnd (p:=(((i:Nat):Int)-((a:Nat):Int))=64) rfl (fun h51=>?_) (fun h51=>?_)
    ·refine sr fun Q52 k53=>qt mv<|qt mv<|qt (x_nilCheck rfl)<|qt (x_field (o:=0) T.fa130_1 rfl)<|qt (x_load1 T.na3 rfl (H37.ld 0 rfl 1 rfl))<|?_
     have H55:Hp S w0 w36 ([RdC bb t i bd]++[]):=(H37.pick [0] (by decide))
     refine cl T.cf64 (stop64 t _ bb i bd _ H55.startL hs (by omega)) rfl fun _ w56 ⟨er,K54⟩=>⟨_,er,?_⟩
     have H57:=H55.callL K54
     refine nl<|k53 _ _<|?_
     refine sr fun Q58 k59=>qt asg<|nl<|k59 _ _<|ret<|kr47 _ _<|kr42 _ _<|kr21 _ _<|kr11 _ _<|kr7 _ _<|leave1 (P:=Tryz.prog) (fn:=Tryz.f188) (t:=2) (v:=.string (ByteArray.mk #[])) rfl rfl<|?_
     exact ⟨(ByteArray.mk #[]),i,true,rfl,Stp.stops hb (run_full hwi (by omega) (by omega) (by assumption)),by omega,(H57.pick [0] (by decide))⟩
    ·refine skip<|kn46 _ _<|region<|qt mv<|qt (x_nilCheck rfl)<|qt (x_field (o:=0) T.fa130_1 rfl)<|qt (x_load1 T.na3 rfl (H37.ld 0 rfl 1 rfl))<|qt (addN (b:=1) rfl rfl)<|qt (x_nilCheck rfl)<|qt (x_field (o:=0) T.fa130_1 rfl)<|?_
     refine st_s<|Est (v:=.int .i64 (((i+1):Nat):Int)) H37 0 T.sz3 rfl rfl rfl rfl rfl rfl fun w60 H61=>nl<|kn41 _ _<|?_
     refine kn20 _ ((i+1)) _ ⟨rfl,rfl,trivial⟩ ⟨(H61.pick [0] (by decide)),?_⟩ ?_
     ·try dsimp only
      exact WI.step hwi (by omega) (by omega) (by assumption) (fun h=>by cases h)
     ·(try dsimp only);omega
   ·refine exit<|ke26 _ _ _<|ke22 _ _ _<|kb13 _ _<|kn6 _ _<|seqK fun Q62 kn63 kr64 ke65=>regionD1 [3,8] [0,1,2,3,4,5,6,7,8,9,10] (.one 0 (.one 1 (.one 2 (.one 3 (.one 4 (.one 5 (.one 6 (.one 7 (.one 8 (.one 9 (.one 10 .done))))))))))) (by kernel_rfl) (by kernel_rfl) fun w66 x67 s68=>?_
    have H69:=H37.ext x67
    have S70:Ext w66 w66:=Below.refl _ _
    refine d_q rfl rfl (fun _=>mv)<|d_q rfl rfl (fun _=>x_nilCheck rfl)<|d_q rfl rfl (fun _=>x_field (o:=0) T.fa130_0 rfl)<|d_l rfl rfl rfl (fun _ y71=>x_load1 T.na9 rfl ((H69.ld 0 rfl 0 rfl).ext y71))<|d_q rfl rfl (fun _=>mv)<|d_q rfl rfl (fun _=>mv)<|d_q rfl rfl (fun _=>x_nilCheck rfl)<|d_q rfl rfl (fun _=>x_field (o:=0) T.fa130_1 rfl)<|d_l rfl rfl rfl (fun _ y72=>x_load1 T.na3 rfl ((H69.ld 0 rfl 1 rfl).ext y72))<|d_q rfl rfl (fun _=>x_sliceSLH Tryz.underlying9 rfl rfl rfl (by omega) (by omega))<|d_q rfl rfl (fun _=>asg)<|d_done<|kn63 _ _<|ret<|leave1 (P:=Tryz.prog) (fn:=Tryz.f188) (t:=2) (v:=.string (t.extract a i)) rfl rfl<|?_
    exact ⟨(t.extract a i),i,bd,rfl,Stp.goes hb (run_fin hwi (by first | exact .inl (by omega) | exact .inr (by assumption))),by omega,(H69.pick [0] (by decide))⟩
  ·refine st_gn 3 11 rfl rfl (by decide) rfl<|st_gn 3 11 rfl rfl (by decide) rfl<|st_gn 3 11 rfl rfl (by decide) rfl<|qt (pkF rfl)<|nl<|k28 _ _<|cndF rfl<|exit<|ke26 _ _ _<|ke22 _ _ _<|kb13 _ _<|kn6 _ _<|seqK fun Q73 kn74 kr75 ke76=>regionD1 [3,8] [0,1,2,3,4,5,6,7,8,9,10] (.one 0 (.one 1 (.one 2 (.one 3 (.one 4 (.one 5 (.one 6 (.one 7 (.one 8 (.one 9 (.one 10 .done))))))))))) (by kernel_rfl) (by kernel_rfl) fun w77 x78 s79=>?_
   have H80:=H32.ext x78
   have S81:Ext w77 w77:=Below.refl _ _
   refine d_q rfl rfl (fun _=>mv)<|d_q rfl rfl (fun _=>x_nilCheck rfl)<|d_q rfl rfl (fun _=>x_field (o:=0) T.fa130_0 rfl)<|d_l rfl rfl rfl (fun _ y82=>x_load1 T.na9 rfl ((H80.ld 0 rfl 0 rfl).ext y82))<|d_q rfl rfl (fun _=>mv)<|d_q rfl rfl (fun _=>mv)<|d_q rfl rfl (fun _=>x_nilCheck rfl)<|d_q rfl rfl (fun _=>x_field (o:=0) T.fa130_1 rfl)<|d_l rfl rfl rfl (fun _ y83=>x_load1 T.na3 rfl ((H80.ld 0 rfl 1 rfl).ext y83))<|d_q rfl rfl (fun _=>x_sliceSLH Tryz.underlying9 rfl rfl rfl (by omega) (by omega))<|d_q rfl rfl (fun _=>asg)<|d_done<|kn74 _ _<|ret<|leave1 (P:=Tryz.prog) (fn:=Tryz.f188) (t:=2) (v:=.string (t.extract a i)) rfl rfl<|?_
   exact ⟨(t.extract a i),i,bd,rfl,Stp.goes hb (run_fin hwi (by first | exact .inl (by omega) | exact .inr (by assumption))),by omega,(H80.pick [0] (by decide))⟩
theorem digits265 (t:ByteArray) (S:Nat→Prop) (bb a:Nat) (bd:Bool) (w0:World) (Hx:Hp S w0 w0 [RdC bb t a bd]) (hs:t.size≤68719476736) (ha:a≤t.size) (hb:¬ bd=true) :
  Calls Tryz.prog 265 #[.pointer (some ⟨bb,0,none⟩)] w0 fun e w'=>∃ s a' b',e= .returned (.string s)∧Stp (digitsR ((bl t).drop a) a) bd a s a' b'∧a'≤t.size∧Hp S w0 w' [RdC bb t a' b']:=by
 have H0:Hp S w0 w0 [RdC bb t a bd]:=Hx
 refine enter Tryz.func265 rfl 54 Tryz.ntmps265 rfl<|?_
 refine sr fun Q1 k2=>qt asg<|nl<|k2 _ _<|?_
 refine sr fun Q3 k4=>qt mv<|qt (x_nilCheck rfl)<|qt (x_field (o:=0) T.fa130_1 rfl)<|qt (x_load1 T.na3 rfl (H0.ld 0 rfl 1 rfl))<|qt asg<|nl<|k4 _ _<|seqK fun Q5 kn6 kr7 ke8=>blockK fun Q9 kn10 kr11 kx12 kb13=>?_
 refine loopK (α:=Nat) (fun x=>[(0,.pointer (some ⟨bb,0,none⟩)),(3,.int .i64 ((a:Nat):Int))]) (fun x w14=>Hp S w0 w14 [RdC bb t x bd]∧WI t a true x) (fun x=>t.size-x) (a) ⟨rfl,rfl,trivial⟩ ?_ ?_
 ·refine ⟨H0,?_⟩
  try dsimp only
  exact WI.start ha
 ·rintro τ15 i w16 ⟨hx17,hwi⟩
  try dsimp only at hwi
  have hz18:=hx17.le
  intro Q19 kn20 kr21 ke22
  have hi:=hwi.2.1
  have hai:=hwi.1
  refine seqK fun Q23 kn24 kr25 ke26=>?_
  refine sr fun Q27 k28=>qt mv<|?_
  have H30:Hp S w0 w16 ([RdC bb t i bd]++[]):=(hx17.pick [0] (by decide))
  refine cl T.cf63 (end63 t _ bb i bd _ H30.startL hs (by omega)) rfl fun _ w31 ⟨er,K29⟩=>⟨_,er,?_⟩
  have H32:=H30.callL K29
  refine qt (x_notP rfl)<|st_if (p:=¬ (t.size≤i)) (x_move rfl) (fun h33=>?_) (fun h33=>?_)
  ·refine st_gq 3 11 rfl rfl (by decide)<|qt mv<|st_gq 3 11 rfl rfl (by decide)<|?_
   have H35:Hp S w0 w31 ([RdC bb t i bd]++[]):=(H32.pick [0] (by decide))
   refine cl T.cf115 (peek115 t _ bb i bd _ H35.startL hs (by omega)) rfl fun _ w36 ⟨er,K34⟩=>⟨_,er,?_⟩
   have H37:=H35.callL K34
   refine st_gq 3 11 rfl rfl (by decide)<|?_
   refine cl T.cf264 (digit264 _ _) rfl fun _ _ ⟨er,rfl⟩=>⟨_,er,?_⟩
   refine qt (pkT rfl)<|nl<|k28 _ _<|cnd (p:=Dg (pk t i)) rfl (fun h39=>?_) (fun h39=>?_)
   ·refine skip<|kn24 _ _<|blockK fun Q40 kn41 kr42 kx43 kb44=>seqK fun Q45 kn46 kr47 ke48=>?_
    refine sr fun Q49 k50=>qt mv<|qt (x_nilCheck rfl)<|qt (x_field (o:=0) T.fa130_1 rfl)<|qt (x_load1 T.na3 rfl (H37.ld 0 rfl 1 rfl))<|qt mv<|qt (x_sub rfl rfl ⟨by omega,by omega⟩)<|qt (x_eql rfl rfl)<|nl<|k50 _ _<|cnd (p:=(((i:Nat):Int)-((a:Nat):Int))=64) rfl (fun h51=>?_) (fun h51=>?_)
    ·refine sr fun Q52 k53=>qt mv<|qt mv<|qt (x_nilCheck rfl)<|qt (x_field (o:=0) T.fa130_1 rfl)<|qt (x_load1 T.na3 rfl (H37.ld 0 rfl 1 rfl))<|?_
     have H55:Hp S w0 w36 ([RdC bb t i bd]++[]):=(H37.pick [0] (by decide))
     refine cl T.cf64 (stop64 t _ bb i bd _ H55.startL hs (by omega)) rfl fun _ w56 ⟨er,K54⟩=>⟨_,er,?_⟩
     have H57:=H55.callL K54
     refine nl<|k53 _ _<|?_
     refine sr fun Q58 k59=>qt asg<|nl<|k59 _ _<|ret<|kr47 _ _<|kr42 _ _<|kr21 _ _<|kr11 _ _<|kr7 _ _<|leave1 (P:=Tryz.prog) (fn:=Tryz.f265) (t:=2) (v:=.string (ByteArray.mk #[])) rfl rfl<|?_
     exact ⟨(ByteArray.mk #[]),i,true,rfl,Stp.stops hb (digits_full hwi (by omega) (by omega) (by assumption)),by omega,(H57.pick [0] (by decide))⟩
    ·refine skip<|kn46 _ _<|region<|qt mv<|qt (x_nilCheck rfl)<|qt (x_field (o:=0) T.fa130_1 rfl)<|qt (x_load1 T.na3 rfl (H37.ld 0 rfl 1 rfl))<|qt (addN (b:=1) rfl rfl)<|qt (x_nilCheck rfl)<|qt (x_field (o:=0) T.fa130_1 rfl)<|?_
     refine st_s<|Est (v:=.int .i64 (((i+1):Nat):Int)) H37 0 T.sz3 rfl rfl rfl rfl rfl rfl fun w60 H61=>nl<|kn41 _ _<|?_
     refine kn20 _ ((i+1)) _ ⟨rfl,rfl,trivial⟩ ⟨(H61.pick [0] (by decide)),?_⟩ ?_
     ·try dsimp only
      exact WI.step hwi (by omega) (by omega) (dg_lt.1 (by assumption)).1 (dg_lt.1 (by assumption)).2
     ·(try dsimp only);omega
   ·refine exit<|ke26 _ _ _<|ke22 _ _ _<|kb13 _ _<|kn6 _ _<|seqK fun Q62 kn63 kr64 ke65=>?_
    refine sr fun Q66 k67=>qt mv<|?_
    have H69:Hp S w0 w36 ([RdC bb t i bd]++[]):=(H37.pick [0] (by decide))
    refine cl T.cf192 (wordly192 t _ bb i bd _ H69.startL hs (by omega)) rfl fun _ w70 ⟨er,K68⟩=>⟨_,er,?_⟩
    have H71:=H69.callL K68
    refine nl<|k67 _ _<|cnd (p:=Wordly ((bl t).drop i)) rfl (fun h72=>?_) (fun h72=>?_)
    ·refine sr fun Q73 k74=>qt mv<|qt mv<|qt (x_nilCheck rfl)<|qt (x_field (o:=0) T.fa130_1 rfl)<|qt (x_load1 T.na3 rfl (H71.ld 0 rfl 1 rfl))<|?_
     have H76:Hp S w0 w70 ([RdC bb t i bd]++[]):=(H71.pick [0] (by decide))
     refine cl T.cf64 (stop64 t _ bb i bd _ H76.startL hs (by omega)) rfl fun _ w77 ⟨er,K75⟩=>⟨_,er,?_⟩
     have H78:=H76.callL K75
     refine nl<|k74 _ _<|?_
     refine sr fun Q79 k80=>qt asg<|nl<|k80 _ _<|ret<|kr64 _ _<|leave1 (P:=Tryz.prog) (fn:=Tryz.f265) (t:=2) (v:=.string (ByteArray.mk #[])) rfl rfl<|?_
     exact ⟨(ByteArray.mk #[]),i,true,rfl,Stp.stops hb ((digits_fin hwi (by first | exact .inl (by omega) | exact .inr (by assumption))).trans (if_pos h72)),by omega,(H78.pick [0] (by decide))⟩
    ·refine skip<|kn63 _ _<|seqK fun Q81 kn82 kr83 ke84=>regionD1 [3,8] [0,1,2,3,4,5,6,7,8,9,10] (.one 0 (.one 1 (.one 2 (.one 3 (.one 4 (.one 5 (.one 6 (.one 7 (.one 8 (.one 9 (.one 10 .done))))))))))) (by kernel_rfl) (by kernel_rfl) fun w85 x86 s87=>?_
     have H88:=H71.ext x86
     have S89:Ext w85 w85:=Below.refl _ _
     refine d_q rfl rfl (fun _=>mv)<|d_q rfl rfl (fun _=>x_nilCheck rfl)<|d_q rfl rfl (fun _=>x_field (o:=0) T.fa130_0 rfl)<|d_l rfl rfl rfl (fun _ y90=>x_load1 T.na9 rfl ((H88.ld 0 rfl 0 rfl).ext y90))<|d_q rfl rfl (fun _=>mv)<|d_q rfl rfl (fun _=>mv)<|d_q rfl rfl (fun _=>x_nilCheck rfl)<|d_q rfl rfl (fun _=>x_field (o:=0) T.fa130_1 rfl)<|d_l rfl rfl rfl (fun _ y91=>x_load1 T.na3 rfl ((H88.ld 0 rfl 1 rfl).ext y91))<|d_q rfl rfl (fun _=>x_sliceSLH Tryz.underlying9 rfl rfl rfl (by omega) (by omega))<|d_q rfl rfl (fun _=>asg)<|d_done<|kn82 _ _<|ret<|leave1 (P:=Tryz.prog) (fn:=Tryz.f265) (t:=2) (v:=.string (t.extract a i)) rfl rfl<|?_
     exact ⟨(t.extract a i),i,bd,rfl,Stp.goes hb ((digits_fin hwi (by first | exact .inl (by omega) | exact .inr (by assumption))).trans (if_neg h72)),by omega,(H88.pick [0] (by decide))⟩
  ·refine st_gn 3 11 rfl rfl (by decide) rfl<|st_gn 3 11 rfl rfl (by decide) rfl<|st_gn 3 11 rfl rfl (by decide) rfl<|qt (pkF rfl)<|nl<|k28 _ _<|cndF rfl<|exit<|ke26 _ _ _<|ke22 _ _ _<|kb13 _ _<|kn6 _ _<|seqK fun Q92 kn93 kr94 ke95=>?_
   refine sr fun Q96 k97=>qt mv<|?_
   have H99:Hp S w0 w31 ([RdC bb t i bd]++[]):=(H32.pick [0] (by decide))
   refine cl T.cf192 (wordly192 t _ bb i bd _ H99.startL hs (by omega)) rfl fun _ w100 ⟨er,K98⟩=>⟨_,er,?_⟩
   have H101:=H99.callL K98
   refine nl<|k97 _ _<|cnd (p:=Wordly ((bl t).drop i)) rfl (fun h102=>?_) (fun h102=>?_)
   ·refine sr fun Q103 k104=>qt mv<|qt mv<|qt (x_nilCheck rfl)<|qt (x_field (o:=0) T.fa130_1 rfl)<|qt (x_load1 T.na3 rfl (H101.ld 0 rfl 1 rfl))<|?_
    have H106:Hp S w0 w100 ([RdC bb t i bd]++[]):=(H101.pick [0] (by decide))
    refine cl T.cf64 (stop64 t _ bb i bd _ H106.startL hs (by omega)) rfl fun _ w107 ⟨er,K105⟩=>⟨_,er,?_⟩
    have H108:=H106.callL K105
    refine nl<|k104 _ _<|?_
    refine sr fun Q109 k110=>qt asg<|nl<|k110 _ _<|ret<|kr94 _ _<|leave1 (P:=Tryz.prog) (fn:=Tryz.f265) (t:=2) (v:=.string (ByteArray.mk #[])) rfl rfl<|?_
    exact ⟨(ByteArray.mk #[]),i,true,rfl,Stp.stops hb ((digits_fin hwi (by first | exact .inl (by omega) | exact .inr (by assumption))).trans (if_pos h102)),by omega,(H108.pick [0] (by decide))⟩
   ·refine skip<|kn93 _ _<|seqK fun Q111 kn112 kr113 ke114=>regionD1 [3,8] [0,1,2,3,4,5,6,7,8,9,10] (.one 0 (.one 1 (.one 2 (.one 3 (.one 4 (.one 5 (.one 6 (.one 7 (.one 8 (.one 9 (.one 10 .done))))))))))) (by kernel_rfl) (by kernel_rfl) fun w115 x116 s117=>?_
    have H118:=H101.ext x116
    have S119:Ext w115 w115:=Below.refl _ _
    refine d_q rfl rfl (fun _=>mv)<|d_q rfl rfl (fun _=>x_nilCheck rfl)<|d_q rfl rfl (fun _=>x_field (o:=0) T.fa130_0 rfl)<|d_l rfl rfl rfl (fun _ y120=>x_load1 T.na9 rfl ((H118.ld 0 rfl 0 rfl).ext y120))<|d_q rfl rfl (fun _=>mv)<|d_q rfl rfl (fun _=>mv)<|d_q rfl rfl (fun _=>x_nilCheck rfl)<|d_q rfl rfl (fun _=>x_field (o:=0) T.fa130_1 rfl)<|d_l rfl rfl rfl (fun _ y121=>x_load1 T.na3 rfl ((H118.ld 0 rfl 1 rfl).ext y121))<|d_q rfl rfl (fun _=>x_sliceSLH Tryz.underlying9 rfl rfl rfl (by omega) (by omega))<|d_q rfl rfl (fun _=>asg)<|d_done<|kn112 _ _<|ret<|leave1 (P:=Tryz.prog) (fn:=Tryz.f265) (t:=2) (v:=.string (t.extract a i)) rfl rfl<|?_
    exact ⟨(t.extract a i),i,bd,rfl,Stp.goes hb ((digits_fin hwi (by first | exact .inl (by omega) | exact .inr (by assumption))).trans (if_neg h102)),by omega,(H118.pick [0] (by decide))⟩
end Go.Proofs.YtljfgmedbjlkaaaGreat
namespace Go.Proofs.YtljfgmedbjlkaaaGreat
open Go.RowKit Go.Eng Go.QP
theorem T.cf188:CF Tryz.prog 188:=fun _ _=>by kernel_rfl
theorem name116 (t:ByteArray) (S:Nat→Prop) (bb a:Nat) (bd:Bool) (w0:World) (Hx:Hp S w0 w0 [RdC bb t a bd]) (hs:t.size≤68719476736) (ha:a≤t.size) :
  Calls Tryz.prog 116 #[.pointer (some ⟨bb,0,none⟩)] w0 fun e w'=>∃ s a' b',e= .returned (.string s)∧Stp (nameR ((bl t).drop a) a) bd a s a' b'∧a'≤t.size∧Hp S w0 w' [RdC bb t a' b']:=by
 have H0:Hp S w0 w0 [RdC bb t a bd]:=Hx
 refine enter Tryz.func116 rfl 40 Tryz.ntmps116 rfl<|?_
 refine sr fun Q1 k2=>qt asg<|nl<|k2 _ _<|seqK fun Q3 kn4 kr5 ke6=>?_
 refine sr fun Q7 k8=>qt mv<|qt (x_nilCheck rfl)<|qt (x_field (o:=0) T.fa130_2 rfl)<|qt (x_load1 T.na4 rfl (H0.ld 0 rfl 2 rfl))<|nl<|k8 _ _<|cnd (p:=bd=true) rfl (fun h9=>?_) (fun h9=>?_)
 ·refine sr fun Q10 k11=>qt asg<|nl<|k11 _ _<|ret<|kr5 _ _<|leave1 (P:=Tryz.prog) (fn:=Tryz.f116) (t:=2) (v:=.string (ByteArray.mk #[])) rfl rfl<|?_
  exact ⟨(ByteArray.mk #[]),a,bd,rfl,Stp.was (by assumption),by omega,(H0.pick [0] (by decide))⟩
 ·refine skip<|kn4 _ _<|seqK fun Q12 kn13 kr14 ke15=>?_
  refine sr fun Q16 k17=>qt mv<|?_
  have H19:Hp S w0 w0 ([RdC bb t a bd]++[]):=(H0.pick [0] (by decide))
  refine cl T.cf63 (end63 t _ bb a bd _ H19.startL hs (by omega)) rfl fun _ w20 ⟨er,K18⟩=>⟨_,er,?_⟩
  have H21:=H19.callL K18
  refine st_if (p:=t.size≤a) (x_move rfl) (fun h22=>?_) (fun h22=>?_)
  ·refine st_gn 2 10 rfl rfl (by decide) rfl<|st_gn 2 10 rfl rfl (by decide) rfl<|st_gn 2 10 rfl rfl (by decide) rfl<|st_gn 2 10 rfl rfl (by decide) rfl<|qt (pkT rfl)<|nl<|k17 _ _<|cndT rfl<|?_
   refine sr fun Q23 k24=>qt mv<|qt mv<|qt (x_nilCheck rfl)<|qt (x_field (o:=0) T.fa130_1 rfl)<|qt (x_load1 T.na3 rfl (H21.ld 0 rfl 1 rfl))<|?_
   have H26:Hp S w0 w20 ([RdC bb t a bd]++[]):=(H21.pick [0] (by decide))
   refine cl T.cf64 (stop64 t _ bb a bd _ H26.startL hs (by omega)) rfl fun _ w27 ⟨er,K25⟩=>⟨_,er,?_⟩
   have H28:=H26.callL K25
   refine nl<|k24 _ _<|?_
   refine sr fun Q29 k30=>qt asg<|nl<|k30 _ _<|ret<|kr14 _ _<|leave1 (P:=Tryz.prog) (fn:=Tryz.f116) (t:=2) (v:=.string (ByteArray.mk #[])) rfl rfl<|?_
   exact ⟨(ByteArray.mk #[]),a,true,rfl,Stp.stops (by assumption) (name_bad (by first | assumption | (rw [pk_off (by omega)];decide))),by omega,(H28.pick [0] (by decide))⟩
  ·refine st_gq 2 10 rfl rfl (by decide)<|qt mv<|st_gq 2 10 rfl rfl (by decide)<|?_
   have H32:Hp S w0 w20 ([RdC bb t a bd]++[]):=(H21.pick [0] (by decide))
   refine cl T.cf115 (peek115 t _ bb a bd _ H32.startL hs (by omega)) rfl fun _ w33 ⟨er,K31⟩=>⟨_,er,?_⟩
   have H34:=H32.callL K31
   refine st_gq 2 10 rfl rfl (by decide)<|?_
   refine cl T.cf187 (small187 _ _) rfl fun _ _ ⟨er,rfl⟩=>⟨_,er,?_⟩
   refine st_gq 2 10 rfl rfl (by decide)<|qt (x_notP rfl)<|qt (pkF rfl)<|nl<|k17 _ _<|cnd (p:=¬ (Sm (pk t a))) rfl (fun h36=>?_) (fun h36=>?_)
   ·refine sr fun Q37 k38=>qt mv<|qt mv<|qt (x_nilCheck rfl)<|qt (x_field (o:=0) T.fa130_1 rfl)<|qt (x_load1 T.na3 rfl (H34.ld 0 rfl 1 rfl))<|?_
    have H40:Hp S w0 w33 ([RdC bb t a bd]++[]):=(H34.pick [0] (by decide))
    refine cl T.cf64 (stop64 t _ bb a bd _ H40.startL hs (by omega)) rfl fun _ w41 ⟨er,K39⟩=>⟨_,er,?_⟩
    have H42:=H40.callL K39
    refine nl<|k38 _ _<|?_
    refine sr fun Q43 k44=>qt asg<|nl<|k44 _ _<|ret<|kr14 _ _<|leave1 (P:=Tryz.prog) (fn:=Tryz.f116) (t:=2) (v:=.string (ByteArray.mk #[])) rfl rfl<|?_
    exact ⟨(ByteArray.mk #[]),a,true,rfl,Stp.stops (by assumption) (name_bad (by first | assumption | (rw [pk_off (by omega)];decide))),by omega,(H42.pick [0] (by decide))⟩
   ·refine skip<|kn13 _ _<|?_
    refine sr fun Q45 k46=>qt mv<|?_
    have H53:Hp S w0 w33 ([RdC bb t a bd]++[]):=(H34.pick [0] (by decide))
    refine cl T.cf188 (run188 t _ bb a bd _ H53.startL hs (by omega) (by assumption)) rfl fun _ w54 ⟨s50,a51,b52,er,hst48,hle49,K47⟩=>⟨_,er,?_⟩
    have H55:=H53.callL K47
    refine qt asg<|nl<|k46 _ _<|seqK fun Q56 kn57 kr58 ke59=>?_
    refine sr fun Q60 k61=>qt mv<|qt (x_nilCheck rfl)<|qt (x_field (o:=0) T.fa130_2 rfl)<|qt (x_load1 T.na4 rfl (H55.ld 0 rfl 2 rfl))<|qt (x_notP rfl)<|st_if (p:=¬ (b52=true)) (x_move rfl) (fun h62=>?_) (fun h62=>?_)
    ·refine st_gq 5 29 rfl rfl (by decide)<|qt mv<|st_gq 5 29 rfl rfl (by decide)<|?_
     refine cl T.cf189 (rsv189 _ _) rfl fun _ _ ⟨er,rfl⟩=>⟨_,er,?_⟩
     refine qt (pkT rfl)<|nl<|k61 _ _<|cnd (p:=Rsv s50) rfl (fun h64=>?_) (fun h64=>?_)
     ·refine region<|qt mv<|qt mv<|qt (x_nilCheck rfl)<|qt (x_field (o:=0) T.fa130_1 rfl)<|qt (x_load1 T.na3 rfl (H55.ld 0 rfl 1 rfl))<|?_
      have H66:Hp S w0 w54 ([RdC bb t a51 b52]++[]):=(H55.pick [0] (by decide))
      refine cl T.cf64 (stop64 t _ bb a51 b52 _ H66.startL hs (by omega)) rfl fun _ w67 ⟨er,K65⟩=>⟨_,er,?_⟩
      have H68:=H66.callL K65
      refine nl<|kn57 _ _<|?_
      refine sr fun Q69 k70=>qt mv<|qt asg<|nl<|k70 _ _<|ret<|leave1 (P:=Tryz.prog) (fn:=Tryz.f116) (t:=2) (v:=.string s50) rfl rfl<|?_
      exact ⟨s50,a51,true,rfl,(hst48.th (g:=fun s j=>if Rsv s then .bad j else .ok s j) (Stp.stops (by assumption) (if_pos h64))).eq (name_small (Decidable.of_not_not (by assumption))),by omega,(H68.pick [0] (by decide))⟩
     ·refine skip<|kn57 _ _<|?_
      refine sr fun Q71 k72=>qt mv<|qt asg<|nl<|k72 _ _<|ret<|leave1 (P:=Tryz.prog) (fn:=Tryz.f116) (t:=2) (v:=.string s50) rfl rfl<|?_
      exact ⟨s50,a51,b52,rfl,(hst48.th (g:=fun s j=>if Rsv s then .bad j else .ok s j) (Stp.goes (by assumption) (if_neg h64))).eq (name_small (Decidable.of_not_not (by assumption))),by omega,(H55.pick [0] (by decide))⟩
    ·refine st_gn 5 29 rfl rfl (by decide) rfl<|st_gn 5 29 rfl rfl (by decide) rfl<|qt (pkF rfl)<|nl<|k61 _ _<|cndF rfl<|skip<|kn57 _ _<|?_
     refine sr fun Q73 k74=>qt mv<|qt asg<|nl<|k74 _ _<|ret<|leave1 (P:=Tryz.prog) (fn:=Tryz.f116) (t:=2) (v:=.string s50) rfl rfl<|?_
     exact ⟨s50,a51,b52,rfl,(hst48.th (g:=fun s j=>if Rsv s then .bad j else .ok s j) (Stp.was (by first | assumption | (simpa using h62)))).eq (name_small (Decidable.of_not_not (by assumption))),by omega,(H55.pick [0] (by decide))⟩
theorem hex336 (t:ByteArray) (S:Nat→Prop) (bb a:Nat) (bd:Bool) (w0:World) (Hx:Hp S w0 w0 [RdC bb t a bd]) (hs:t.size≤68719476736) (ha:a≤t.size) (hb:¬ bd=true) :
  Calls Tryz.prog 336 #[.pointer (some ⟨bb,0,none⟩)] w0 fun e w'=>∃ x a' b',e= .returned (.int .u8 ((x:Nat):Int))∧(Stp (hexR t a) bd a x a' b'∧x<16)∧a'≤t.size∧Hp S w0 w' [RdC bb t a' b']:=by
 have H0:Hp S w0 w0 [RdC bb t a bd]:=Hx
 refine enter Tryz.func336 rfl 41 Tryz.ntmps336 rfl<|?_
 refine sr fun Q1 k2=>qt asg<|nl<|k2 _ _<|?_
 refine sr fun Q3 k4=>qt mv<|?_
 have H6:Hp S w0 w0 ([RdC bb t a bd]++[]):=(H0.pick [0] (by decide))
 refine cl T.cf115 (peek115 t _ bb a bd _ H6.startL hs (by omega)) rfl fun _ w7 ⟨er,K5⟩=>⟨_,er,?_⟩
 have H8:=H6.callL K5
 refine qt asg<|nl<|k4 _ _<|seqK fun Q9 kn10 kr11 ke12=>?_
 refine sr fun Q13 k14=>qt mv<|?_
 have H16:Hp S w0 w7 ([RdC bb t a bd]++[]):=(H8.pick [0] (by decide))
 refine cl T.cf63 (end63 t _ bb a bd _ H16.startL hs (by omega)) rfl fun _ w17 ⟨er,K15⟩=>⟨_,er,?_⟩
 have H18:=H16.callL K15
 refine st_if (p:=t.size≤a) (x_move rfl) (fun h19=>?_) (fun h19=>?_)
 ·refine st_gn 2 8 rfl rfl (by decide) rfl<|st_gn 2 8 rfl rfl (by decide) rfl<|st_gn 2 8 rfl rfl (by decide) rfl<|st_gn 2 8 rfl rfl (by decide) rfl<|st_gu 6 12 rfl rfl (by decide)<|st_gu 6 12 rfl rfl (by decide)<|st_gu 6 12 rfl rfl (by decide)<|st_gu 9 15 rfl rfl (by decide)<|st_gu 9 15 rfl rfl (by decide)<|st_gu 6 12 rfl rfl (by decide)<|st_gn 2 8 rfl rfl (by decide) rfl<|qt (pkT rfl)<|nl<|k14 _ _<|cndT rfl<|?_
  refine sr fun Q20 k21=>qt mv<|qt mv<|qt (x_nilCheck rfl)<|qt (x_field (o:=0) T.fa130_1 rfl)<|qt (x_load1 T.na3 rfl (H18.ld 0 rfl 1 rfl))<|?_
  have H23:Hp S w0 w17 ([RdC bb t a bd]++[]):=(H18.pick [0] (by decide))
  refine cl T.cf64 (stop64 t _ bb a bd _ H23.startL hs (by omega)) rfl fun _ w24 ⟨er,K22⟩=>⟨_,er,?_⟩
  have H25:=H23.callL K22
  refine nl<|k21 _ _<|?_
  refine sr fun Q26 k27=>qt asg<|nl<|k27 _ _<|ret<|kr11 _ _<|leave1 (P:=Tryz.prog) (fn:=Tryz.f336) (t:=2) (v:=.int .u8 ((0:Nat):Int)) rfl rfl<|?_
  exact ⟨0,a,true,rfl,⟨Stp.stops hb (if_pos (by first | (rw [pk_off (by omega)];exact hx_zero) | (unfold hx;rw [if_neg (by assumption),if_neg (by omega)];omega))),by omega⟩,by omega,(H25.pick [0] (by decide))⟩
 ·refine st_gq 2 8 rfl rfl (by decide)<|qt mv<|st_gq 2 8 rfl rfl (by decide)<|?_
  refine cl T.cf264 (digit264 _ _) rfl fun _ _ ⟨er,rfl⟩=>⟨_,er,?_⟩
  refine st_gq 2 8 rfl rfl (by decide)<|qt (x_notP rfl)<|st_gq 2 8 rfl rfl (by decide)<|st_if (p:=¬ (Dg (pk t a))) (x_move rfl) (fun h29=>?_) (fun h29=>?_)
  ·refine st_gq 6 12 rfl rfl (by decide)<|qt mv<|st_gq 6 12 rfl rfl (by decide)<|qt (x_lssN (b:=97) rfl rfl)<|st_gq 6 12 rfl rfl (by decide)<|st_if (p:=(pk t a)<97) (x_move rfl) (fun h30=>?_) (fun h30=>?_)
   ·refine st_gn 9 15 rfl rfl (by decide) rfl<|st_gn 9 15 rfl rfl (by decide) rfl<|st_gq 6 12 rfl rfl (by decide)<|qt (pkT rfl)<|st_gq 2 8 rfl rfl (by decide)<|qt (pkT rfl)<|qt (pkF rfl)<|nl<|k14 _ _<|cndT rfl<|?_
    refine sr fun Q31 k32=>qt mv<|qt mv<|qt (x_nilCheck rfl)<|qt (x_field (o:=0) T.fa130_1 rfl)<|qt (x_load1 T.na3 rfl (H18.ld 0 rfl 1 rfl))<|?_
    have H34:Hp S w0 w17 ([RdC bb t a bd]++[]):=(H18.pick [0] (by decide))
    refine cl T.cf64 (stop64 t _ bb a bd _ H34.startL hs (by omega)) rfl fun _ w35 ⟨er,K33⟩=>⟨_,er,?_⟩
    have H36:=H34.callL K33
    refine nl<|k32 _ _<|?_
    refine sr fun Q37 k38=>qt asg<|nl<|k38 _ _<|ret<|kr11 _ _<|leave1 (P:=Tryz.prog) (fn:=Tryz.f336) (t:=2) (v:=.int .u8 ((0:Nat):Int)) rfl rfl<|?_
    exact ⟨0,a,true,rfl,⟨Stp.stops hb (if_pos (by first | (rw [pk_off (by omega)];exact hx_zero) | (unfold hx;rw [if_neg (by assumption),if_neg (by omega)];omega))),by omega⟩,by omega,(H36.pick [0] (by decide))⟩
   ·refine st_gq 9 15 rfl rfl (by decide)<|qt mv<|st_gq 9 15 rfl rfl (by decide)<|qt (x_gtrN (b:=102) rfl rfl)<|st_gq 6 12 rfl rfl (by decide)<|qt (pkF rfl)<|st_gq 2 8 rfl rfl (by decide)<|qt (pkT rfl)<|qt (pkF rfl)<|nl<|k14 _ _<|cnd (p:=102<(pk t a)) rfl (fun h39=>?_) (fun h39=>?_)
    ·refine sr fun Q40 k41=>qt mv<|qt mv<|qt (x_nilCheck rfl)<|qt (x_field (o:=0) T.fa130_1 rfl)<|qt (x_load1 T.na3 rfl (H18.ld 0 rfl 1 rfl))<|?_
     have H43:Hp S w0 w17 ([RdC bb t a bd]++[]):=(H18.pick [0] (by decide))
     refine cl T.cf64 (stop64 t _ bb a bd _ H43.startL hs (by omega)) rfl fun _ w44 ⟨er,K42⟩=>⟨_,er,?_⟩
     have H45:=H43.callL K42
     refine nl<|k41 _ _<|?_
     refine sr fun Q46 k47=>qt asg<|nl<|k47 _ _<|ret<|kr11 _ _<|leave1 (P:=Tryz.prog) (fn:=Tryz.f336) (t:=2) (v:=.int .u8 ((0:Nat):Int)) rfl rfl<|?_
     exact ⟨0,a,true,rfl,⟨Stp.stops hb (if_pos (by first | (rw [pk_off (by omega)];exact hx_zero) | (unfold hx;rw [if_neg (by assumption),if_neg (by omega)];omega))),by omega⟩,by omega,(H45.pick [0] (by decide))⟩
    ·refine skip<|kn10 _ _<|?_
     refine sr fun Q48 k49=>qt mv<|qt (x_nilCheck rfl)<|qt (x_field (o:=0) T.fa130_1 rfl)<|qt (x_load1 T.na3 rfl (H18.ld 0 rfl 1 rfl))<|qt (addN (b:=1) rfl rfl)<|qt (x_nilCheck rfl)<|qt (x_field (o:=0) T.fa130_1 rfl)<|?_
     refine st_s<|Est (v:=.int .i64 (((a+1):Nat):Int)) H18 0 T.sz3 rfl rfl rfl rfl rfl rfl fun w50 H51=>nl<|k49 _ _<|seqK fun Q52 kn53 kr54 ke55=>?_
     refine sr fun Q56 k57=>qt mv<|?_
     refine cl T.cf264 (digit264 _ _) rfl fun _ _ ⟨er,rfl⟩=>⟨_,er,?_⟩
     refine nl<|k57 _ _<|cnd (p:=Dg (pk t a)) rfl (fun h59=>?_) (fun h59=>?_)
     ·refine sr fun Q60 k61=>qt mv<|qt (x_sub8 (b:=48) rfl rfl (have h48:48≤pk t a∧pk t a≤57:=(by assumption);by omega) (have h48:48≤pk t a∧pk t a≤57:=(by assumption);by omega))<|qt asg<|nl<|k61 _ _<|ret<|kr54 _ _<|leave1 (P:=Tryz.prog) (fn:=Tryz.f336) (t:=2) (v:=.int .u8 (((pk t a-48):Nat):Int)) rfl rfl<|?_
      exact ⟨(pk t a-48),(a+1),bd,rfl,⟨Stp.goes hb (hex_dg h59),(have h48:48≤pk t a∧pk t a≤57:=(by assumption);by omega)⟩,by omega,(H51.pick [0] (by decide))⟩
     ·refine skip<|kn53 _ _<|?_
      refine sr fun Q62 k63=>qt mv<|qt (x_sub8 (b:=97) rfl rfl (by omega) (by omega))<|qt (x_add8 (b:=10) (c:=pk t a-87) rfl rfl (by omega) (by omega))<|qt asg<|nl<|k63 _ _<|ret<|leave1 (P:=Tryz.prog) (fn:=Tryz.f336) (t:=2) (v:=.int .u8 (((pk t a-87):Nat):Int)) rfl rfl<|?_
      exact ⟨(pk t a-87),(a+1),bd,rfl,⟨Stp.goes hb (hex_af (by assumption) (by omega) (by omega)),by omega⟩,by omega,(H51.pick [0] (by decide))⟩
  ·refine st_gn 6 12 rfl rfl (by decide) rfl<|st_gn 6 12 rfl rfl (by decide) rfl<|st_gn 6 12 rfl rfl (by decide) rfl<|st_gu 9 15 rfl rfl (by decide)<|st_gu 9 15 rfl rfl (by decide)<|st_gn 6 12 rfl rfl (by decide) rfl<|st_gq 2 8 rfl rfl (by decide)<|qt (pkF rfl)<|qt (pkF rfl)<|nl<|k14 _ _<|cndF rfl<|skip<|kn10 _ _<|?_
   refine sr fun Q64 k65=>qt mv<|qt (x_nilCheck rfl)<|qt (x_field (o:=0) T.fa130_1 rfl)<|qt (x_load1 T.na3 rfl (H18.ld 0 rfl 1 rfl))<|qt (addN (b:=1) rfl rfl)<|qt (x_nilCheck rfl)<|qt (x_field (o:=0) T.fa130_1 rfl)<|?_
   refine st_s<|Est (v:=.int .i64 (((a+1):Nat):Int)) H18 0 T.sz3 rfl rfl rfl rfl rfl rfl fun w66 H67=>nl<|k65 _ _<|seqK fun Q68 kn69 kr70 ke71=>?_
   refine sr fun Q72 k73=>qt mv<|?_
   refine cl T.cf264 (digit264 _ _) rfl fun _ _ ⟨er,rfl⟩=>⟨_,er,?_⟩
   refine nl<|k73 _ _<|cnd (p:=Dg (pk t a)) rfl (fun h75=>?_) (fun h75=>?_)
   ·refine sr fun Q76 k77=>qt mv<|qt (x_sub8 (b:=48) rfl rfl (have h48:48≤pk t a∧pk t a≤57:=(by assumption);by omega) (have h48:48≤pk t a∧pk t a≤57:=(by assumption);by omega))<|qt asg<|nl<|k77 _ _<|ret<|kr70 _ _<|leave1 (P:=Tryz.prog) (fn:=Tryz.f336) (t:=2) (v:=.int .u8 (((pk t a-48):Nat):Int)) rfl rfl<|?_
    exact ⟨(pk t a-48),(a+1),bd,rfl,⟨Stp.goes hb (hex_dg h75),(have h48:48≤pk t a∧pk t a≤57:=(by assumption);by omega)⟩,by omega,(H67.pick [0] (by decide))⟩
   ·refine skip<|kn69 _ _<|?_
    refine sr fun Q78 k79=>qt mv<|qt (x_sub8 (b:=97) rfl rfl (by omega) (by omega))<|qt (x_add8 (b:=10) (c:=pk t a-87) rfl rfl (by omega) (by omega))<|qt asg<|nl<|k79 _ _<|ret<|leave1 (P:=Tryz.prog) (fn:=Tryz.f336) (t:=2) (v:=.int .u8 (((pk t a-87):Nat):Int)) rfl rfl<|?_
    exact ⟨(pk t a-87),(a+1),bd,rfl,⟨Stp.goes hb (hex_af (by assumption) (by omega) (by omega)),by omega⟩,by omega,(H67.pick [0] (by decide))⟩
end Go.Proofs.YtljfgmedbjlkaaaGreat
