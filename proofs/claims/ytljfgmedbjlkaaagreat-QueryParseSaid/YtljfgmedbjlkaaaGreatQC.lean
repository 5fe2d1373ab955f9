/- A part of the engine: steps over the model. Over any program. -/
import Derived.Test.YtljfgmedbjlkaaaGreatQA
import Derived.Test.YtljfgmedbjlkaaaGreatV3
import Derived.Test.YtljfgmedbjlkaaaGreatProg
namespace Go.Proofs.YtljfgmedbjlkaaaGreat
open Go.RowKit Go.Eng Go.QP
theorem T.cf187:CF Tryz.prog 187:=fun _ _=>by kernel_rfl
theorem T.cf263:CF Tryz.prog 263:=fun _ _=>by kernel_rfl
theorem T.cf264:CF Tryz.prog 264:=fun _ _=>by kernel_rfl
theorem small187 (c:Nat) (w0:World) :
  Calls Tryz.prog 187 #[.int .u8 (c:Int)] w0 fun e w'=>e= .returned (.bool (decide (Sm c)))∧w0=w':=by
 refine enter Tryz.func187 rfl 9 Tryz.ntmps187 rfl<|?_
 refine sr fun Q1 k2=>qt asg<|nl<|k2 _ _<|?_
 refine sr fun Q3 k4=>qt mv<|qt (x_geqN (b:=97) rfl rfl)<|st_if (p:=97≤c) (x_move rfl) (fun h5=>?_) (fun h5=>?_)
 ·exact st_gq 2 5 rfl rfl (by decide)<|qt mv<|st_gq 2 5 rfl rfl (by decide)<|qt (x_leqN (b:=122) rfl rfl)<|qt (pkT rfl)<|qt asg<|nl<|k4 _ _<|ret<|leave1 (P:=Tryz.prog) (fn:=Tryz.f187) (t:=2) (v:=.bool (decide (c≤122))) rfl rfl<|⟨congrArg Ending.returned (dq (q:=Sm c) (by omega)),rfl⟩
 ·exact st_gn 2 5 rfl rfl (by decide) rfl<|st_gn 2 5 rfl rfl (by decide) rfl<|qt (pkF rfl)<|qt asg<|nl<|k4 _ _<|ret<|leave1 (P:=Tryz.prog) (fn:=Tryz.f187) (t:=2) (v:=.bool false) rfl rfl<|⟨congrArg Ending.returned (dF (p:=Sm c) (by omega)),rfl⟩
theorem great263 (c:Nat) (w0:World) :
  Calls Tryz.prog 263 #[.int .u8 (c:Int)] w0 fun e w'=>e= .returned (.bool (decide (Gr c)))∧w0=w':=by
 refine enter Tryz.func263 rfl 9 Tryz.ntmps263 rfl<|?_
 refine sr fun Q1 k2=>qt asg<|nl<|k2 _ _<|?_
 refine sr fun Q3 k4=>qt mv<|qt (x_geqN (b:=65) rfl rfl)<|st_if (p:=65≤c) (x_move rfl) (fun h5=>?_) (fun h5=>?_)
 ·exact st_gq 2 5 rfl rfl (by decide)<|qt mv<|st_gq 2 5 rfl rfl (by decide)<|qt (x_leqN (b:=90) rfl rfl)<|qt (pkT rfl)<|qt asg<|nl<|k4 _ _<|ret<|leave1 (P:=Tryz.prog) (fn:=Tryz.f263) (t:=2) (v:=.bool (decide (c≤90))) rfl rfl<|⟨congrArg Ending.returned (dq (q:=Gr c) (by omega)),rfl⟩
 ·exact st_gn 2 5 rfl rfl (by decide) rfl<|st_gn 2 5 rfl rfl (by decide) rfl<|qt (pkF rfl)<|qt asg<|nl<|k4 _ _<|ret<|leave1 (P:=Tryz.prog) (fn:=Tryz.f263) (t:=2) (v:=.bool false) rfl rfl<|⟨congrArg Ending.returned (dF (p:=Gr c) (by omega)),rfl⟩
theorem digit264 (c:Nat) (w0:World) :
  Calls Tryz.prog 264 #[.int .u8 (c:Int)] w0 fun e w'=>e= .returned (.bool (decide (Dg c)))∧w0=w':=by
 refine enter Tryz.func264 rfl 9 Tryz.ntmps264 rfl<|?_
 refine sr fun Q1 k2=>qt asg<|nl<|k2 _ _<|?_
 refine sr fun Q3 k4=>qt mv<|qt (x_geqN (b:=48) rfl rfl)<|st_if (p:=48≤c) (x_move rfl) (fun h5=>?_) (fun h5=>?_)
 ·exact st_gq 2 5 rfl rfl (by decide)<|qt mv<|st_gq 2 5 rfl rfl (by decide)<|qt (x_leqN (b:=57) rfl rfl)<|qt (pkT rfl)<|qt asg<|nl<|k4 _ _<|ret<|leave1 (P:=Tryz.prog) (fn:=Tryz.f264) (t:=2) (v:=.bool (decide (c≤57))) rfl rfl<|⟨congrArg Ending.returned (dq (q:=Dg c) (by omega)),rfl⟩
 ·exact st_gn 2 5 rfl rfl (by decide) rfl<|st_gn 2 5 rfl rfl (by decide) rfl<|qt (pkF rfl)<|qt asg<|nl<|k4 _ _<|ret<|leave1 (P:=Tryz.prog) (fn:=Tryz.f264) (t:=2) (v:=.bool false) rfl rfl<|⟨congrArg Ending.returned (dF (p:=Dg c) (by omega)),rfl⟩
theorem word122 (c:Nat) (w0:World) :
  Calls Tryz.prog 122 #[.int .u8 (c:Int)] w0 fun e w'=>e= .returned (.bool (decide (Lt c)))∧w0=w':=by
 refine enter Tryz.func122 rfl 29 Tryz.ntmps122 rfl<|?_
 refine sr fun Q1 k2=>qt asg<|nl<|k2 _ _<|?_
 refine sr fun Q3 k4=>qt mv<|qt (x_geqN (b:=97) rfl rfl)<|st_if (p:=97≤c) (x_move rfl) (fun h5=>?_) (fun h5=>?_)
 ·refine st_gq 2 5 rfl rfl (by decide)<|qt mv<|st_gq 2 5 rfl rfl (by decide)<|qt (x_leqN (b:=122) rfl rfl)<|qt (pkT rfl)<|st_if (p:=c≤122) (x_move rfl) (fun h6=>?_) (fun h6=>?_)
  ·exact st_gn 6 9 rfl rfl (by decide) rfl<|st_gn 6 9 rfl rfl (by decide) rfl<|st_gn 6 9 rfl rfl (by decide) rfl<|st_gu 9 12 rfl rfl (by decide)<|st_gu 9 12 rfl rfl (by decide)<|st_gn 6 9 rfl rfl (by decide) rfl<|qt (pkT rfl)<|qt mv<|st_gn 14 17 rfl rfl (by decide) rfl<|st_gn 14 17 rfl rfl (by decide) rfl<|st_gn 14 17 rfl rfl (by decide) rfl<|st_gu 17 20 rfl rfl (by decide)<|st_gu 17 20 rfl rfl (by decide)<|st_gn 14 17 rfl rfl (by decide) rfl<|qt (pkT rfl)<|qt mv<|st_gn 22 25 rfl rfl (by decide) rfl<|st_gn 22 25 rfl rfl (by decide) rfl<|qt (pkT rfl)<|qt asg<|nl<|k4 _ _<|ret<|leave1 (P:=Tryz.prog) (fn:=Tryz.f122) (t:=2) (v:=.bool true) rfl rfl<|⟨congrArg Ending.returned (dT (p:=Lt c) (by omega)),rfl⟩
  ·refine st_gq 6 9 rfl rfl (by decide)<|qt mv<|st_gq 6 9 rfl rfl (by decide)<|qt (x_geqN (b:=65) rfl rfl)<|st_gq 6 9 rfl rfl (by decide)<|st_if (p:=65≤c) (x_move rfl) (fun h7=>?_) (fun h7=>?_)
   ·refine st_gq 9 12 rfl rfl (by decide)<|qt mv<|st_gq 9 12 rfl rfl (by decide)<|qt (x_leqN (b:=90) rfl rfl)<|st_gq 6 9 rfl rfl (by decide)<|qt (pkT rfl)<|qt (pkF rfl)<|st_if (p:=c≤90) (x_move rfl) (fun h8=>?_) (fun h8=>?_)
    ·exact st_gn 14 17 rfl rfl (by decide) rfl<|st_gn 14 17 rfl rfl (by decide) rfl<|st_gn 14 17 rfl rfl (by decide) rfl<|st_gu 17 20 rfl rfl (by decide)<|st_gu 17 20 rfl rfl (by decide)<|st_gn 14 17 rfl rfl (by decide) rfl<|qt (pkT rfl)<|qt mv<|st_gn 22 25 rfl rfl (by decide) rfl<|st_gn 22 25 rfl rfl (by decide) rfl<|qt (pkT rfl)<|qt asg<|nl<|k4 _ _<|ret<|leave1 (P:=Tryz.prog) (fn:=Tryz.f122) (t:=2) (v:=.bool true) rfl rfl<|⟨congrArg Ending.returned (dT (p:=Lt c) (by omega)),rfl⟩
    ·refine st_gq 14 17 rfl rfl (by decide)<|qt mv<|st_gq 14 17 rfl rfl (by decide)<|qt (x_geqN (b:=48) rfl rfl)<|st_gq 14 17 rfl rfl (by decide)<|st_if (p:=48≤c) (x_move rfl) (fun h9=>?_) (fun h9=>?_)
     ·refine st_gq 17 20 rfl rfl (by decide)<|qt mv<|st_gq 17 20 rfl rfl (by decide)<|qt (x_leqN (b:=57) rfl rfl)<|st_gq 14 17 rfl rfl (by decide)<|qt (pkT rfl)<|qt (pkF rfl)<|st_if (p:=c≤57) (x_move rfl) (fun h10=>?_) (fun h10=>?_)
      ·exact st_gn 22 25 rfl rfl (by decide) rfl<|st_gn 22 25 rfl rfl (by decide) rfl<|qt (pkT rfl)<|qt asg<|nl<|k4 _ _<|ret<|leave1 (P:=Tryz.prog) (fn:=Tryz.f122) (t:=2) (v:=.bool true) rfl rfl<|⟨congrArg Ending.returned (dT (p:=Lt c) (by omega)),rfl⟩
      ·exact st_gq 22 25 rfl rfl (by decide)<|qt mv<|st_gq 22 25 rfl rfl (by decide)<|qt (x_eqlN (b:=95) rfl rfl)<|qt (pkF rfl)<|qt asg<|nl<|k4 _ _<|ret<|leave1 (P:=Tryz.prog) (fn:=Tryz.f122) (t:=2) (v:=.bool (decide (c=95))) rfl rfl<|⟨congrArg Ending.returned (dq (q:=Lt c) (by omega)),rfl⟩
     ·exact st_gn 17 20 rfl rfl (by decide) rfl<|st_gn 17 20 rfl rfl (by decide) rfl<|st_gq 14 17 rfl rfl (by decide)<|qt (pkF rfl)<|qt (pkF rfl)<|qt mv<|st_gq 22 25 rfl rfl (by decide)<|qt mv<|st_gq 22 25 rfl rfl (by decide)<|qt (x_eqlN (b:=95) rfl rfl)<|qt (pkF rfl)<|qt asg<|nl<|k4 _ _<|ret<|leave1 (P:=Tryz.prog) (fn:=Tryz.f122) (t:=2) (v:=.bool (decide (c=95))) rfl rfl<|⟨congrArg Ending.returned (dq (q:=Lt c) (by omega)),rfl⟩
   ·refine st_gn 9 12 rfl rfl (by decide) rfl<|st_gn 9 12 rfl rfl (by decide) rfl<|st_gq 6 9 rfl rfl (by decide)<|qt (pkF rfl)<|qt (pkF rfl)<|qt mv<|st_gq 14 17 rfl rfl (by decide)<|qt mv<|st_gq 14 17 rfl rfl (by decide)<|qt (x_geqN (b:=48) rfl rfl)<|st_gq 14 17 rfl rfl (by decide)<|st_if (p:=48≤c) (x_move rfl) (fun h11=>?_) (fun h11=>?_)
    ·refine st_gq 17 20 rfl rfl (by decide)<|qt mv<|st_gq 17 20 rfl rfl (by decide)<|qt (x_leqN (b:=57) rfl rfl)<|st_gq 14 17 rfl rfl (by decide)<|qt (pkT rfl)<|qt (pkF rfl)<|st_if (p:=c≤57) (x_move rfl) (fun h12=>?_) (fun h12=>?_)
     ·exact st_gn 22 25 rfl rfl (by decide) rfl<|st_gn 22 25 rfl rfl (by decide) rfl<|qt (pkT rfl)<|qt asg<|nl<|k4 _ _<|ret<|leave1 (P:=Tryz.prog) (fn:=Tryz.f122) (t:=2) (v:=.bool true) rfl rfl<|⟨congrArg Ending.returned (dT (p:=Lt c) (by omega)),rfl⟩
     ·exact st_gq 22 25 rfl rfl (by decide)<|qt mv<|st_gq 22 25 rfl rfl (by decide)<|qt (x_eqlN (b:=95) rfl rfl)<|qt (pkF rfl)<|qt asg<|nl<|k4 _ _<|ret<|leave1 (P:=Tryz.prog) (fn:=Tryz.f122) (t:=2) (v:=.bool (decide (c=95))) rfl rfl<|⟨congrArg Ending.returned (dq (q:=Lt c) (by omega)),rfl⟩
    ·exact st_gn 17 20 rfl rfl (by decide) rfl<|st_gn 17 20 rfl rfl (by decide) rfl<|st_gq 14 17 rfl rfl (by decide)<|qt (pkF rfl)<|qt (pkF rfl)<|qt mv<|st_gq 22 25 rfl rfl (by decide)<|qt mv<|st_gq 22 25 rfl rfl (by decide)<|qt (x_eqlN (b:=95) rfl rfl)<|qt (pkF rfl)<|qt asg<|nl<|k4 _ _<|ret<|leave1 (P:=Tryz.prog) (fn:=Tryz.f122) (t:=2) (v:=.bool (decide (c=95))) rfl rfl<|⟨congrArg Ending.returned (dq (q:=Lt c) (by omega)),rfl⟩
 ·refine st_gn 2 5 rfl rfl (by decide) rfl<|st_gn 2 5 rfl rfl (by decide) rfl<|qt (pkF rfl)<|qt mv<|st_gq 6 9 rfl rfl (by decide)<|qt mv<|st_gq 6 9 rfl rfl (by decide)<|qt (x_geqN (b:=65) rfl rfl)<|st_gq 6 9 rfl rfl (by decide)<|st_if (p:=65≤c) (x_move rfl) (fun h13=>?_) (fun h13=>?_)
  ·refine st_gq 9 12 rfl rfl (by decide)<|qt mv<|st_gq 9 12 rfl rfl (by decide)<|qt (x_leqN (b:=90) rfl rfl)<|st_gq 6 9 rfl rfl (by decide)<|qt (pkT rfl)<|qt (pkF rfl)<|st_if (p:=c≤90) (x_move rfl) (fun h14=>?_) (fun h14=>?_)
   ·exact st_gn 14 17 rfl rfl (by decide) rfl<|st_gn 14 17 rfl rfl (by decide) rfl<|st_gn 14 17 rfl rfl (by decide) rfl<|st_gu 17 20 rfl rfl (by decide)<|st_gu 17 20 rfl rfl (by decide)<|st_gn 14 17 rfl rfl (by decide) rfl<|qt (pkT rfl)<|qt mv<|st_gn 22 25 rfl rfl (by decide) rfl<|st_gn 22 25 rfl rfl (by decide) rfl<|qt (pkT rfl)<|qt asg<|nl<|k4 _ _<|ret<|leave1 (P:=Tryz.prog) (fn:=Tryz.f122) (t:=2) (v:=.bool true) rfl rfl<|⟨congrArg Ending.returned (dT (p:=Lt c) (by omega)),rfl⟩
   ·refine st_gq 14 17 rfl rfl (by decide)<|qt mv<|st_gq 14 17 rfl rfl (by decide)<|qt (x_geqN (b:=48) rfl rfl)<|st_gq 14 17 rfl rfl (by decide)<|st_if (p:=48≤c) (x_move rfl) (fun h15=>?_) (fun h15=>?_)
    ·refine st_gq 17 20 rfl rfl (by decide)<|qt mv<|st_gq 17 20 rfl rfl (by decide)<|qt (x_leqN (b:=57) rfl rfl)<|st_gq 14 17 rfl rfl (by decide)<|qt (pkT rfl)<|qt (pkF rfl)<|st_if (p:=c≤57) (x_move rfl) (fun h16=>?_) (fun h16=>?_)
     ·exact st_gn 22 25 rfl rfl (by decide) rfl<|st_gn 22 25 rfl rfl (by decide) rfl<|qt (pkT rfl)<|qt asg<|nl<|k4 _ _<|ret<|leave1 (P:=Tryz.prog) (fn:=Tryz.f122) (t:=2) (v:=.bool true) rfl rfl<|⟨congrArg Ending.returned (dT (p:=Lt c) (by omega)),rfl⟩
     ·exact st_gq 22 25 rfl rfl (by decide)<|qt mv<|st_gq 22 25 rfl rfl (by decide)<|qt (x_eqlN (b:=95) rfl rfl)<|qt (pkF rfl)<|qt asg<|nl<|k4 _ _<|ret<|leave1 (P:=Tryz.prog) (fn:=Tryz.f122) (t:=2) (v:=.bool (decide (c=95))) rfl rfl<|⟨congrArg Ending.returned (dq (q:=Lt c) (by omega)),rfl⟩
    ·exact st_gn 17 20 rfl rfl (by decide) rfl<|st_gn 17 20 rfl rfl (by decide) rfl<|st_gq 14 17 rfl rfl (by decide)<|qt (pkF rfl)<|qt (pkF rfl)<|qt mv<|st_gq 22 25 rfl rfl (by decide)<|qt mv<|st_gq 22 25 rfl rfl (by decide)<|qt (x_eqlN (b:=95) rfl rfl)<|qt (pkF rfl)<|qt asg<|nl<|k4 _ _<|ret<|leave1 (P:=Tryz.prog) (fn:=Tryz.f122) (t:=2) (v:=.bool (decide (c=95))) rfl rfl<|⟨congrArg Ending.returned (dq (q:=Lt c) (by omega)),rfl⟩
  ·refine st_gn 9 12 rfl rfl (by decide) rfl<|st_gn 9 12 rfl rfl (by decide) rfl<|st_gq 6 9 rfl rfl (by decide)<|qt (pkF rfl)<|qt (pkF rfl)<|qt mv<|st_gq 14 17 rfl rfl (by decide)<|qt mv<|st_gq 14 17 rfl rfl (by decide)<|qt (x_geqN (b:=48) rfl rfl)<|st_gq 14 17 rfl rfl (by decide)<|st_if (p:=48≤c) (x_move rfl) (fun h17=>?_) (fun h17=>?_)
   ·refine st_gq 17 20 rfl rfl (by decide)<|qt mv<|st_gq 17 20 rfl rfl (by decide)<|qt (x_leqN (b:=57) rfl rfl)<|st_gq 14 17 rfl rfl (by decide)<|qt (pkT rfl)<|qt (pkF rfl)<|st_if (p:=c≤57) (x_move rfl) (fun h18=>?_) (fun h18=>?_)
    ·exact st_gn 22 25 rfl rfl (by decide) rfl<|st_gn 22 25 rfl rfl (by decide) rfl<|qt (pkT rfl)<|qt asg<|nl<|k4 _ _<|ret<|leave1 (P:=Tryz.prog) (fn:=Tryz.f122) (t:=2) (v:=.bool true) rfl rfl<|⟨congrArg Ending.returned (dT (p:=Lt c) (by omega)),rfl⟩
    ·exact st_gq 22 25 rfl rfl (by decide)<|qt mv<|st_gq 22 25 rfl rfl (by decide)<|qt (x_eqlN (b:=95) rfl rfl)<|qt (pkF rfl)<|qt asg<|nl<|k4 _ _<|ret<|leave1 (P:=Tryz.prog) (fn:=Tryz.f122) (t:=2) (v:=.bool (decide (c=95))) rfl rfl<|⟨congrArg Ending.returned (dq (q:=Lt c) (by omega)),rfl⟩
   ·exact st_gn 17 20 rfl rfl (by decide) rfl<|st_gn 17 20 rfl rfl (by decide) rfl<|st_gq 14 17 rfl rfl (by decide)<|qt (pkF rfl)<|qt (pkF rfl)<|qt mv<|st_gq 22 25 rfl rfl (by decide)<|qt mv<|st_gq 22 25 rfl rfl (by decide)<|qt (x_eqlN (b:=95) rfl rfl)<|qt (pkF rfl)<|qt asg<|nl<|k4 _ _<|ret<|leave1 (P:=Tryz.prog) (fn:=Tryz.f122) (t:=2) (v:=.bool (decide (c=95))) rfl rfl<|⟨congrArg Ending.returned (dq (q:=Lt c) (by omega)),rfl⟩
theorem goes262 (c:Nat) (w0:World) :
  Calls Tryz.prog 262 #[.int .u8 (c:Int)] w0 fun e w'=>e= .returned (.bool (decide (Lt c)))∧w0=w':=by
 refine enter Tryz.func262 rfl 17 Tryz.ntmps262 rfl<|?_
 refine sr fun Q1 k2=>qt asg<|nl<|k2 _ _<|?_
 refine sr fun Q3 k4=>qt mv<|?_
 refine cl T.cf187 (small187 _ _) rfl fun _ _ ⟨er,rfl⟩=>⟨_,er,?_⟩
 refine st_if (p:=Sm c) (x_move rfl) (fun h6=>?_) (fun h6=>?_)
 ·exact st_gn 2 5 rfl rfl (by decide) rfl<|st_gn 2 5 rfl rfl (by decide) rfl<|qt (pkT rfl)<|qt mv<|st_gn 6 9 rfl rfl (by decide) rfl<|st_gn 6 9 rfl rfl (by decide) rfl<|qt (pkT rfl)<|qt mv<|st_gn 10 13 rfl rfl (by decide) rfl<|st_gn 10 13 rfl rfl (by decide) rfl<|qt (pkT rfl)<|qt asg<|nl<|k4 _ _<|ret<|leave1 (P:=Tryz.prog) (fn:=Tryz.f262) (t:=2) (v:=.bool true) rfl rfl<|⟨congrArg Ending.returned (dT (p:=Lt c) (by omega)),rfl⟩
 ·refine st_gq 2 5 rfl rfl (by decide)<|qt mv<|st_gq 2 5 rfl rfl (by decide)<|?_
  refine cl T.cf263 (great263 _ _) rfl fun _ _ ⟨er,rfl⟩=>⟨_,er,?_⟩
  refine qt (pkF rfl)<|st_if (p:=Gr c) (x_move rfl) (fun h8=>?_) (fun h8=>?_)
  ·exact st_gn 6 9 rfl rfl (by decide) rfl<|st_gn 6 9 rfl rfl (by decide) rfl<|qt (pkT rfl)<|qt mv<|st_gn 10 13 rfl rfl (by decide) rfl<|st_gn 10 13 rfl rfl (by decide) rfl<|qt (pkT rfl)<|qt asg<|nl<|k4 _ _<|ret<|leave1 (P:=Tryz.prog) (fn:=Tryz.f262) (t:=2) (v:=.bool true) rfl rfl<|⟨congrArg Ending.returned (dT (p:=Lt c) (by omega)),rfl⟩
  ·refine st_gq 6 9 rfl rfl (by decide)<|qt mv<|st_gq 6 9 rfl rfl (by decide)<|?_
   refine cl T.cf264 (digit264 _ _) rfl fun _ _ ⟨er,rfl⟩=>⟨_,er,?_⟩
   refine qt (pkF rfl)<|st_if (p:=Dg c) (x_move rfl) (fun h10=>?_) (fun h10=>?_)
   ·exact st_gn 10 13 rfl rfl (by decide) rfl<|st_gn 10 13 rfl rfl (by decide) rfl<|qt (pkT rfl)<|qt asg<|nl<|k4 _ _<|ret<|leave1 (P:=Tryz.prog) (fn:=Tryz.f262) (t:=2) (v:=.bool true) rfl rfl<|⟨congrArg Ending.returned (dT (p:=Lt c) (by omega)),rfl⟩
   ·exact st_gq 10 13 rfl rfl (by decide)<|qt mv<|st_gq 10 13 rfl rfl (by decide)<|qt (x_eqlN (b:=95) rfl rfl)<|qt (pkF rfl)<|qt asg<|nl<|k4 _ _<|ret<|leave1 (P:=Tryz.prog) (fn:=Tryz.f262) (t:=2) (v:=.bool (decide (c=95))) rfl rfl<|⟨congrArg Ending.returned (dq (q:=Lt c) (by omega)),rfl⟩
theorem rsv189 (s:ByteArray) (w0:World) :
  Calls Tryz.prog 189 #[.string s] w0 fun e w'=>e= .returned (.bool (decide (Rsv s)))∧w0=w':=by
 refine enter Tryz.func189 rfl 13 Tryz.ntmps189 rfl<|?_
 refine sr fun Q1 k2=>qt asg<|nl<|k2 _ _<|?_
 refine sr fun Q3 k4=>qt mv<|qt (x_eqlS rfl rfl)<|st_if (p:=s.toList=(ByteArray.mk #[105,110,112,117,116]).toList) (x_move rfl) (fun h5=>?_) (fun h5=>?_)
 ·exact st_gn 2 5 rfl rfl (by decide) rfl<|st_gn 2 5 rfl rfl (by decide) rfl<|qt (pkT rfl)<|qt mv<|st_gn 6 9 rfl rfl (by decide) rfl<|st_gn 6 9 rfl rfl (by decide) rfl<|qt (pkT rfl)<|qt asg<|nl<|k4 _ _<|ret<|leave1 (P:=Tryz.prog) (fn:=Tryz.f189) (t:=2) (v:=.bool true) rfl rfl<|⟨congrArg Ending.returned (dT (p:=Rsv s) (by first | exact .inl (by assumption) | exact .inr (.inl (by assumption)) | exact ⟨fun h=>.inr (.inr h),fun h=>h.elim (fun h=>absurd h (by assumption)) fun h=>h.elim (fun h=>absurd h (by assumption)) id⟩)),rfl⟩
 ·refine st_gq 2 5 rfl rfl (by decide)<|qt mv<|st_gq 2 5 rfl rfl (by decide)<|qt (x_eqlS rfl rfl)<|qt (pkF rfl)<|st_if (p:=s.toList=(ByteArray.mk #[111,117,116,112,117,116]).toList) (x_move rfl) (fun h6=>?_) (fun h6=>?_)
  ·exact st_gn 6 9 rfl rfl (by decide) rfl<|st_gn 6 9 rfl rfl (by decide) rfl<|qt (pkT rfl)<|qt asg<|nl<|k4 _ _<|ret<|leave1 (P:=Tryz.prog) (fn:=Tryz.f189) (t:=2) (v:=.bool true) rfl rfl<|⟨congrArg Ending.returned (dT (p:=Rsv s) (by first | exact .inl (by assumption) | exact .inr (.inl (by assumption)) | exact ⟨fun h=>.inr (.inr h),fun h=>h.elim (fun h=>absurd h (by assumption)) fun h=>h.elim (fun h=>absurd h (by assumption)) id⟩)),rfl⟩
  ·exact st_gq 6 9 rfl rfl (by decide)<|qt mv<|st_gq 6 9 rfl rfl (by decide)<|qt (x_eqlS rfl rfl)<|qt (pkF rfl)<|qt asg<|nl<|k4 _ _<|ret<|leave1 (P:=Tryz.prog) (fn:=Tryz.f189) (t:=2) (v:=.bool (decide (s.toList=(ByteArray.mk #[110,111,116]).toList))) rfl rfl<|⟨congrArg Ending.returned (dq (q:=Rsv s) (by first | exact .inl (by assumption) | exact .inr (.inl (by assumption)) | exact ⟨fun h=>.inr (.inr h),fun h=>h.elim (fun h=>absurd h (by assumption)) fun h=>h.elim (fun h=>absurd h (by assumption)) id⟩)),rfl⟩
theorem rsv124 (s:ByteArray) (w0:World) :
  Calls Tryz.prog 124 #[.string s] w0 fun e w'=>e= .returned (.bool (decide (Rsv s)))∧w0=w':=by
 refine enter Tryz.func124 rfl 13 Tryz.ntmps124 rfl<|?_
 refine sr fun Q1 k2=>qt asg<|nl<|k2 _ _<|?_
 refine sr fun Q3 k4=>qt mv<|qt (x_eqlS rfl rfl)<|st_if (p:=s.toList=(ByteArray.mk #[105,110,112,117,116]).toList) (x_move rfl) (fun h5=>?_) (fun h5=>?_)
 ·exact st_gn 2 5 rfl rfl (by decide) rfl<|st_gn 2 5 rfl rfl (by decide) rfl<|qt (pkT rfl)<|qt mv<|st_gn 6 9 rfl rfl (by decide) rfl<|st_gn 6 9 rfl rfl (by decide) rfl<|qt (pkT rfl)<|qt asg<|nl<|k4 _ _<|ret<|leave1 (P:=Tryz.prog) (fn:=Tryz.f124) (t:=2) (v:=.bool true) rfl rfl<|⟨congrArg Ending.returned (dT (p:=Rsv s) (by first | exact .inl (by assumption) | exact .inr (.inl (by assumption)) | exact ⟨fun h=>.inr (.inr h),fun h=>h.elim (fun h=>absurd h (by assumption)) fun h=>h.elim (fun h=>absurd h (by assumption)) id⟩)),rfl⟩
 ·refine st_gq 2 5 rfl rfl (by decide)<|qt mv<|st_gq 2 5 rfl rfl (by decide)<|qt (x_eqlS rfl rfl)<|qt (pkF rfl)<|st_if (p:=s.toList=(ByteArray.mk #[111,117,116,112,117,116]).toList) (x_move rfl) (fun h6=>?_) (fun h6=>?_)
  ·exact st_gn 6 9 rfl rfl (by decide) rfl<|st_gn 6 9 rfl rfl (by decide) rfl<|qt (pkT rfl)<|qt asg<|nl<|k4 _ _<|ret<|leave1 (P:=Tryz.prog) (fn:=Tryz.f124) (t:=2) (v:=.bool true) rfl rfl<|⟨congrArg Ending.returned (dT (p:=Rsv s) (by first | exact .inl (by assumption) | exact .inr (.inl (by assumption)) | exact ⟨fun h=>.inr (.inr h),fun h=>h.elim (fun h=>absurd h (by assumption)) fun h=>h.elim (fun h=>absurd h (by assumption)) id⟩)),rfl⟩
  ·exact st_gq 6 9 rfl rfl (by decide)<|qt mv<|st_gq 6 9 rfl rfl (by decide)<|qt (x_eqlS rfl rfl)<|qt (pkF rfl)<|qt asg<|nl<|k4 _ _<|ret<|leave1 (P:=Tryz.prog) (fn:=Tryz.f124) (t:=2) (v:=.bool (decide (s.toList=(ByteArray.mk #[110,111,116]).toList))) rfl rfl<|⟨congrArg Ending.returned (dq (q:=Rsv s) (by first | exact .inl (by assumption) | exact .inr (.inl (by assumption)) | exact ⟨fun h=>.inr (.inr h),fun h=>h.elim (fun h=>absurd h (by assumption)) fun h=>h.elim (fun h=>absurd h (by assumption)) id⟩)),rfl⟩
end Go.Proofs.YtljfgmedbjlkaaaGreat
namespace Go.Proofs.YtljfgmedbjlkaaaGreat
open Go.RowKit Go.Eng Go.QP
theorem T.cf122:CF Tryz.prog 122:=fun _ _=>by kernel_rfl
theorem kind123 (s:ByteArray) (w0:World) (hs:s.size≤9223372036854775807) :
  Calls Tryz.prog 123 #[.string s] w0 fun e w'=>e= .returned (.int .i64 (kind s:Int))∧w0=w':=by
 refine enter Tryz.func123 rfl 60 Tryz.ntmps123 rfl<|?_
 refine sr fun Q1 k2=>qt asg<|nl<|k2 _ _<|seqK fun Q3 kn4 kr5 ke6=>?_
 refine sr fun Q7 k8=>qt mv<|qt (x_lenS rfl Tryz.underlying9 rfl)<|qt (x_lssN (b:=1) rfl rfl)<|st_if (p:=s.size<1) (x_move rfl) (fun h9=>?_) (fun h9=>?_)
 ·refine st_gn 3 9 rfl rfl (by decide) rfl<|st_gn 3 9 rfl rfl (by decide) rfl<|st_gn 3 9 rfl rfl (by decide) rfl<|qt (pkT rfl)<|nl<|k8 _ _<|cndT rfl<|?_
  refine sr fun Q10 k11=>qt asg<|nl<|k11 _ _<|ret<|kr5 _ _<|leave1 (P:=Tryz.prog) (fn:=Tryz.f123) (t:=2) (v:=.int .i64 ((0:Nat):Int)) rfl rfl<|?_
  have hk:kind s=0:=by first | exact kind_len (by omega) | exact kind_w (i:=i) (by omega) (by assumption) | rw [kind_of (s:=s) (by omega) (by omega) (fun j hj=>hw j (by omega)),if_pos (by omega),if_neg (fun h:AllD s=>absurd (hd.2 fun j hj=>h j (by omega)) (by assumption))] | rw [kind_of (s:=s) (by omega) (by omega) (fun j hj=>hw j (by omega)),if_neg (by omega),if_neg (by omega),if_pos (by omega)]
  exact ⟨by rw [hk],rfl⟩
 ·refine st_gq 3 9 rfl rfl (by decide)<|qt mv<|st_gq 3 9 rfl rfl (by decide)<|qt (x_lenS rfl Tryz.underlying9 rfl)<|st_gq 3 9 rfl rfl (by decide)<|qt (x_gtrN (b:=64) rfl rfl)<|qt (pkF rfl)<|nl<|k8 _ _<|cnd (p:=64<s.size) rfl (fun h12=>?_) (fun h12=>?_)
  ·refine sr fun Q13 k14=>qt asg<|nl<|k14 _ _<|ret<|kr5 _ _<|leave1 (P:=Tryz.prog) (fn:=Tryz.f123) (t:=2) (v:=.int .i64 ((0:Nat):Int)) rfl rfl<|?_
   have hk:kind s=0:=by first | exact kind_len (by omega) | exact kind_w (i:=i) (by omega) (by assumption) | rw [kind_of (s:=s) (by omega) (by omega) (fun j hj=>hw j (by omega)),if_pos (by omega),if_neg (fun h:AllD s=>absurd (hd.2 fun j hj=>h j (by omega)) (by assumption))] | rw [kind_of (s:=s) (by omega) (by omega) (fun j hj=>hw j (by omega)),if_neg (by omega),if_neg (by omega),if_pos (by omega)]
   exact ⟨by rw [hk],rfl⟩
  ·refine skip<|kn4 _ _<|?_
   refine sr fun Q15 k16=>qt asg<|nl<|k16 _ _<|seqK fun Q17 kn18 kr19 ke20=>?_
   refine sr fun Q21 k22=>qt mv<|qt (x_lenS rfl Tryz.underlying9 rfl)<|qt mv<|nl<|k22 _ _<|blockK fun Q23 kn24 kr25 kx26 kb27=>?_
   refine loopK (α:=Nat × Bool) (fun x=>[(0,.string s),(3,.bool x.2),(15,.int .i64 ((s.size:Nat):Int)),(16,.int .i64 ((x.1:Nat):Int))]) (fun x w28=>w0=w28∧x.1≤s.size∧(∀ j,j<x.1→Lt (ch s j))∧(x.2=true↔∀ j,j<x.1→ch s j≤57)) (fun x=>s.size-x.1) (0,true) ⟨rfl,rfl,rfl,rfl,trivial⟩ ?_ ?_
   ·refine ⟨rfl,?_⟩
    try dsimp only
    exact ⟨Nat.zero_le _,fun j h=>by omega,fun _ j h=>by omega,fun _=>rfl⟩
   ·rintro τ29 ⟨i,d⟩ w30 ⟨rfl,⟨hi,hw,hd⟩⟩
    try dsimp only at hi hw hd
    intro Q31 kn32 kr33 ke34
    refine sr fun Q35 k36=>qt (x_lssN rfl rfl)<|nl<|k36 _ _<|seqK fun Q37 kn38 kr39 ke40=>cnd (p:=i<s.size) rfl (fun h41=>?_) (fun h41=>?_)
    ·refine skip<|kn38 _ _<|seqK fun Q42 kn43 kr44 ke45=>blockK fun Q46 kn47 kr48 kx49 kb50=>?_
     refine sr fun Q51 k52=>qt mv<|qt asg<|nl<|k52 _ _<|seqK fun Q53 kn54 kr55 ke56=>?_
     refine sr fun Q57 k58=>qt mv<|qt mv<|qt (x_indexS Tryz.underlying9 rfl rfl (by omega))<|?_
     refine cl T.cf122 (word122 _ _) rfl fun _ _ ⟨er,rfl⟩=>⟨_,er,?_⟩
     refine qt (x_notP rfl)<|nl<|k58 _ _<|cnd (p:=¬ (Lt (ch s i))) rfl (fun h60=>?_) (fun h60=>?_)
     ·refine sr fun Q61 k62=>qt asg<|nl<|k62 _ _<|ret<|kr55 _ _<|kr48 _ _<|kr44 _ _<|kr33 _ _<|kr25 _ _<|kr19 _ _<|leave1 (P:=Tryz.prog) (fn:=Tryz.f123) (t:=2) (v:=.int .i64 ((0:Nat):Int)) rfl rfl<|?_
      have hk:kind s=0:=by first | exact kind_len (by omega) | exact kind_w (i:=i) (by omega) (by assumption) | rw [kind_of (s:=s) (by omega) (by omega) (fun j hj=>hw j (by omega)),if_pos (by omega),if_neg (fun h:AllD s=>absurd (hd.2 fun j hj=>h j (by omega)) (by assumption))] | rw [kind_of (s:=s) (by omega) (by omega) (fun j hj=>hw j (by omega)),if_neg (by omega),if_neg (by omega),if_pos (by omega)]
      exact ⟨by rw [hk],rfl⟩
     ·refine skip<|kn54 _ _<|region<|qt mv<|st_if (p:=d=true) (mvB rfl) (fun h63=>?_) (fun h63=>?_)
      ·refine st_gq 1 25 rfl rfl (by decide)<|qt mv<|st_gq 1 25 rfl rfl (by decide)<|qt mv<|st_gq 1 25 rfl rfl (by decide)<|qt (x_indexS Tryz.underlying9 rfl rfl (by omega))<|st_gq 1 25 rfl rfl (by decide)<|qt (x_leqN (b:=57) rfl rfl)<|qt (pkT rfl)<|qt asg<|nl<|kn47 _ _<|kn43 _ _<|region<|qt (addN (b:=1) rfl rfl)<|qt mv<|nl<|kn32 _ ((i+1),(decide ((ch s i)≤57))) _ ⟨rfl,rfl,rfl,rfl,trivial⟩ ⟨rfl,?_⟩ ?_
       ·try dsimp only
        exact ⟨by omega,fun j hj=>(by rcases Nat.lt_or_ge j i with h | h;exact hw j h;rw [show j=i by omega];exact Decidable.of_not_not (by assumption)),(⟨fun h j hj=>(Nat.lt_or_ge j i).elim (fun h2=>hd.1 (by assumption) j h2) (fun h2=>(by rw [show j=i by omega];exact of_decide_eq_true h)),fun h=>decide_eq_true (h i (by omega))⟩)⟩
       ·(try dsimp only);omega
      ·refine st_gn 1 25 rfl rfl (by decide) rfl<|st_gn 1 25 rfl rfl (by decide) rfl<|st_gn 1 25 rfl rfl (by decide) rfl<|st_gn 1 25 rfl rfl (by decide) rfl<|qt (pkF rfl)<|qt asg<|nl<|kn47 _ _<|kn43 _ _<|region<|qt (addN (b:=1) rfl rfl)<|qt mv<|nl<|kn32 _ ((i+1),false) _ ⟨rfl,rfl,rfl,rfl,trivial⟩ ⟨rfl,?_⟩ ?_
       ·try dsimp only
        exact ⟨by omega,fun j hj=>(by rcases Nat.lt_or_ge j i with h | h;exact hw j h;rw [show j=i by omega];exact Decidable.of_not_not (by assumption)),(⟨fun h=>(by cases h),fun h=>absurd (hd.2 fun j hj=>h j (by omega)) (by assumption)⟩)⟩
       ·(try dsimp only);omega
    ·refine exit<|ke40 _ _ _<|ke34 _ _ _<|kb27 _ _<|kn18 _ _<|seqK fun Q64 kn65 kr66 ke67=>?_
     refine sr fun Q68 k69=>qt mv<|qt (x_indexS (i:=0) Tryz.underlying9 rfl rfl (by omega))<|?_
     have h0:=hw 0 (by omega)
     refine qt (x_conv Tryz.underlying21 Tryz.underlying5 rfl (.inl (by omega)))<|qt asg<|nl<|k69 _ _<|blockK fun Q70 kn71 kr72 kx73 kb74=>?_
     refine sr fun Q75 k76=>qt mv<|qt (x_geqN (b:=48) rfl rfl)<|st_if (p:=48≤(ch s 0)) (x_move rfl) (fun h77=>?_) (fun h77=>?_)
     ·refine st_gq 2 38 rfl rfl (by decide)<|qt mv<|st_gq 2 38 rfl rfl (by decide)<|qt (x_leqN (b:=57) rfl rfl)<|qt (pkT rfl)<|qt asg<|nl<|k76 _ _<|cnd (p:=(ch s 0)≤57) rfl (fun h78=>?_) (fun h78=>?_)
      ·refine seqK fun Q79 kn80 kr81 ke82=>?_
       refine sr fun Q83 k84=>qt (mvB rfl)<|nl<|k84 _ _<|cnd (p:=d=true) rfl (fun h85=>?_) (fun h85=>?_)
       ·refine sr fun Q86 k87=>qt asg<|nl<|k87 _ _<|ret<|kr81 _ _<|kr72 _ _<|kr66 _ _<|leave1 (P:=Tryz.prog) (fn:=Tryz.f123) (t:=2) (v:=.int .i64 ((3:Nat):Int)) rfl rfl<|?_
        have hk:kind s=3:=by rw [kind_of (s:=s) (by omega) (by omega) (fun j hj=>hw j (by omega)),if_pos (by omega),if_pos (show AllD s from fun j hj=>hd.1 (by assumption) j (by omega))]
        exact ⟨by rw [hk],rfl⟩
       ·refine skip<|kn80 _ _<|?_
        refine sr fun Q88 k89=>qt asg<|nl<|k89 _ _<|ret<|kr72 _ _<|kr66 _ _<|leave1 (P:=Tryz.prog) (fn:=Tryz.f123) (t:=2) (v:=.int .i64 ((0:Nat):Int)) rfl rfl<|?_
        have hk:kind s=0:=by first | exact kind_len (by omega) | exact kind_w (i:=i) (by omega) (by assumption) | rw [kind_of (s:=s) (by omega) (by omega) (fun j hj=>hw j (by omega)),if_pos (by omega),if_neg (fun h:AllD s=>absurd (hd.2 fun j hj=>h j (by omega)) (by assumption))] | rw [kind_of (s:=s) (by omega) (by omega) (fun j hj=>hw j (by omega)),if_neg (by omega),if_neg (by omega),if_pos (by omega)]
        exact ⟨by rw [hk],rfl⟩
      ·refine sr fun Q90 k91=>qt mv<|qt (x_geqN (b:=65) rfl rfl)<|st_if (p:=65≤(ch s 0)) (x_move rfl) (fun h92=>?_) (fun h92=>?_)
       ·refine st_gq 2 46 rfl rfl (by decide)<|qt mv<|st_gq 2 46 rfl rfl (by decide)<|qt (x_leqN (b:=90) rfl rfl)<|qt (pkT rfl)<|qt asg<|nl<|k91 _ _<|cnd (p:=(ch s 0)≤90) rfl (fun h93=>?_) (fun h93=>?_)
        ·refine sr fun Q94 k95=>qt asg<|nl<|k95 _ _<|ret<|kr72 _ _<|kr66 _ _<|leave1 (P:=Tryz.prog) (fn:=Tryz.f123) (t:=2) (v:=.int .i64 ((2:Nat):Int)) rfl rfl<|?_
         have hk:kind s=2:=by rw [kind_of (s:=s) (by omega) (by omega) (fun j hj=>hw j (by omega)),if_neg (by omega),if_pos (by omega)]
         exact ⟨by rw [hk],rfl⟩
        ·refine sr fun Q96 k97=>qt mv<|qt (x_eqlN (b:=95) rfl rfl)<|qt asg<|nl<|k97 _ _<|cnd (p:=(ch s 0)=95) rfl (fun h98=>?_) (fun h98=>?_)
         ·refine sr fun Q99 k100=>qt asg<|nl<|k100 _ _<|ret<|kr72 _ _<|kr66 _ _<|leave1 (P:=Tryz.prog) (fn:=Tryz.f123) (t:=2) (v:=.int .i64 ((0:Nat):Int)) rfl rfl<|?_
          have hk:kind s=0:=by first | exact kind_len (by omega) | exact kind_w (i:=i) (by omega) (by assumption) | rw [kind_of (s:=s) (by omega) (by omega) (fun j hj=>hw j (by omega)),if_pos (by omega),if_neg (fun h:AllD s=>absurd (hd.2 fun j hj=>h j (by omega)) (by assumption))] | rw [kind_of (s:=s) (by omega) (by omega) (fun j hj=>hw j (by omega)),if_neg (by omega),if_neg (by omega),if_pos (by omega)]
          exact ⟨by rw [hk],rfl⟩
         ·refine skip<|kn71 _ _<|kn65 _ _<|seqK fun Q101 kn102 kr103 ke104=>?_
          refine sr fun Q105 k106=>qt mv<|nl<|k106 _ _<|blockK fun Q107 kn108 kr109 kx110 kb111=>?_
          refine sr fun Q112 k113=>qt (x_eqlS rfl rfl)<|qt asg<|nl<|k113 _ _<|cnd (p:=s.toList=(ByteArray.mk #[105,110,112,117,116]).toList) rfl (fun h114=>?_) (fun h114=>?_)
          ·refine sr fun Q115 k116=>qt asg<|nl<|k116 _ _<|ret<|kr109 _ _<|kr103 _ _<|leave1 (P:=Tryz.prog) (fn:=Tryz.f123) (t:=2) (v:=.int .i64 ((5:Nat):Int)) rfl rfl<|?_
           have hk:kind s=5:=by rw [kind_of (s:=s) (by omega) (by omega) (fun j hj=>hw j (by omega)),if_neg (by omega),if_neg (by omega),if_neg (by omega),if_pos (by assumption)]
           exact ⟨by rw [hk],rfl⟩
          ·refine sr fun Q117 k118=>qt (x_eqlS rfl rfl)<|qt asg<|nl<|k118 _ _<|cnd (p:=s.toList=(ByteArray.mk #[111,117,116,112,117,116]).toList) rfl (fun h119=>?_) (fun h119=>?_)
           ·refine sr fun Q120 k121=>qt asg<|nl<|k121 _ _<|ret<|kr109 _ _<|kr103 _ _<|leave1 (P:=Tryz.prog) (fn:=Tryz.f123) (t:=2) (v:=.int .i64 ((6:Nat):Int)) rfl rfl<|?_
            have hk:kind s=6:=by rw [kind_of (s:=s) (by omega) (by omega) (fun j hj=>hw j (by omega)),if_neg (by omega),if_neg (by omega),if_neg (by omega),if_neg (by assumption),if_pos (by assumption)]
            exact ⟨by rw [hk],rfl⟩
           ·refine sr fun Q122 k123=>qt (x_eqlS rfl rfl)<|qt asg<|nl<|k123 _ _<|cnd (p:=s.toList=(ByteArray.mk #[110,111,116]).toList) rfl (fun h124=>?_) (fun h124=>?_)
            ·refine sr fun Q125 k126=>qt asg<|nl<|k126 _ _<|ret<|kr109 _ _<|kr103 _ _<|leave1 (P:=Tryz.prog) (fn:=Tryz.f123) (t:=2) (v:=.int .i64 ((7:Nat):Int)) rfl rfl<|?_
             have hk:kind s=7:=by rw [kind_of (s:=s) (by omega) (by omega) (fun j hj=>hw j (by omega)),if_neg (by omega),if_neg (by omega),if_neg (by omega),if_neg (by assumption),if_neg (by assumption),if_pos (by assumption)]
             exact ⟨by rw [hk],rfl⟩
            ·refine skip<|kn108 _ _<|kn102 _ _<|?_
             refine sr fun Q127 k128=>qt asg<|nl<|k128 _ _<|ret<|leave1 (P:=Tryz.prog) (fn:=Tryz.f123) (t:=2) (v:=.int .i64 ((1:Nat):Int)) rfl rfl<|?_
             have hk:kind s=1:=by rw [kind_of (s:=s) (by omega) (by omega) (fun j hj=>hw j (by omega)),if_neg (by omega),if_neg (by omega),if_neg (by omega),if_neg (by assumption),if_neg (by assumption),if_neg (by assumption)]
             exact ⟨by rw [hk],rfl⟩
       ·refine st_gn 2 46 rfl rfl (by decide) rfl<|st_gn 2 46 rfl rfl (by decide) rfl<|qt (pkF rfl)<|qt asg<|nl<|k91 _ _<|cndF rfl<|?_
        refine sr fun Q129 k130=>qt mv<|qt (x_eqlN (b:=95) rfl rfl)<|qt asg<|nl<|k130 _ _<|cnd (p:=(ch s 0)=95) rfl (fun h131=>?_) (fun h131=>?_)
        ·refine sr fun Q132 k133=>qt asg<|nl<|k133 _ _<|ret<|kr72 _ _<|kr66 _ _<|leave1 (P:=Tryz.prog) (fn:=Tryz.f123) (t:=2) (v:=.int .i64 ((0:Nat):Int)) rfl rfl<|?_
         have hk:kind s=0:=by first | exact kind_len (by omega) | exact kind_w (i:=i) (by omega) (by assumption) | rw [kind_of (s:=s) (by omega) (by omega) (fun j hj=>hw j (by omega)),if_pos (by omega),if_neg (fun h:AllD s=>absurd (hd.2 fun j hj=>h j (by omega)) (by assumption))] | rw [kind_of (s:=s) (by omega) (by omega) (fun j hj=>hw j (by omega)),if_neg (by omega),if_neg (by omega),if_pos (by omega)]
         exact ⟨by rw [hk],rfl⟩
        ·refine skip<|kn71 _ _<|kn65 _ _<|seqK fun Q134 kn135 kr136 ke137=>?_
         refine sr fun Q138 k139=>qt mv<|nl<|k139 _ _<|blockK fun Q140 kn141 kr142 kx143 kb144=>?_
         refine sr fun Q145 k146=>qt (x_eqlS rfl rfl)<|qt asg<|nl<|k146 _ _<|cnd (p:=s.toList=(ByteArray.mk #[105,110,112,117,116]).toList) rfl (fun h147=>?_) (fun h147=>?_)
         ·refine sr fun Q148 k149=>qt asg<|nl<|k149 _ _<|ret<|kr142 _ _<|kr136 _ _<|leave1 (P:=Tryz.prog) (fn:=Tryz.f123) (t:=2) (v:=.int .i64 ((5:Nat):Int)) rfl rfl<|?_
          have hk:kind s=5:=by rw [kind_of (s:=s) (by omega) (by omega) (fun j hj=>hw j (by omega)),if_neg (by omega),if_neg (by omega),if_neg (by omega),if_pos (by assumption)]
          exact ⟨by rw [hk],rfl⟩
         ·refine sr fun Q150 k151=>qt (x_eqlS rfl rfl)<|qt asg<|nl<|k151 _ _<|cnd (p:=s.toList=(ByteArray.mk #[111,117,116,112,117,116]).toList) rfl (fun h152=>?_) (fun h152=>?_)
          ·refine sr fun Q153 k154=>qt asg<|nl<|k154 _ _<|ret<|kr142 _ _<|kr136 _ _<|leave1 (P:=Tryz.prog) (fn:=Tryz.f123) (t:=2) (v:=.int .i64 ((6:Nat):Int)) rfl rfl<|?_
           have hk:kind s=6:=by rw [kind_of (s:=s) (by omega) (by omega) (fun j hj=>hw j (by omega)),if_neg (by omega),if_neg (by omega),if_neg (by omega),if_neg (by assumption),if_pos (by assumption)]
           exact ⟨by rw [hk],rfl⟩
          ·refine sr fun Q155 k156=>qt (x_eqlS rfl rfl)<|qt asg<|nl<|k156 _ _<|cnd (p:=s.toList=(ByteArray.mk #[110,111,116]).toList) rfl (fun h157=>?_) (fun h157=>?_)
           ·refine sr fun Q158 k159=>qt asg<|nl<|k159 _ _<|ret<|kr142 _ _<|kr136 _ _<|leave1 (P:=Tryz.prog) (fn:=Tryz.f123) (t:=2) (v:=.int .i64 ((7:Nat):Int)) rfl rfl<|?_
            have hk:kind s=7:=by rw [kind_of (s:=s) (by omega) (by omega) (fun j hj=>hw j (by omega)),if_neg (by omega),if_neg (by omega),if_neg (by omega),if_neg (by assumption),if_neg (by assumption),if_pos (by assumption)]
            exact ⟨by rw [hk],rfl⟩
           ·refine skip<|kn141 _ _<|kn135 _ _<|?_
            refine sr fun Q160 k161=>qt asg<|nl<|k161 _ _<|ret<|leave1 (P:=Tryz.prog) (fn:=Tryz.f123) (t:=2) (v:=.int .i64 ((1:Nat):Int)) rfl rfl<|?_
            have hk:kind s=1:=by rw [kind_of (s:=s) (by omega) (by omega) (fun j hj=>hw j (by omega)),if_neg (by omega),if_neg (by omega),if_neg (by omega),if_neg (by assumption),if_neg (by assumption),if_neg (by assumption)]
            exact ⟨by rw [hk],rfl⟩
     ·refine st_gn 2 38 rfl rfl (by decide) rfl<|st_gn 2 38 rfl rfl (by decide) rfl<|qt (pkF rfl)<|qt asg<|nl<|k76 _ _<|cndF rfl<|?_
      refine sr fun Q162 k163=>qt mv<|qt (x_geqN (b:=65) rfl rfl)<|st_if (p:=65≤(ch s 0)) (x_move rfl) (fun h164=>?_) (fun h164=>?_)
      ·refine st_gq 2 46 rfl rfl (by decide)<|qt mv<|st_gq 2 46 rfl rfl (by decide)<|qt (x_leqN (b:=90) rfl rfl)<|qt (pkT rfl)<|qt asg<|nl<|k163 _ _<|cnd (p:=(ch s 0)≤90) rfl (fun h165=>?_) (fun h165=>?_)
       ·refine sr fun Q166 k167=>qt asg<|nl<|k167 _ _<|ret<|kr72 _ _<|kr66 _ _<|leave1 (P:=Tryz.prog) (fn:=Tryz.f123) (t:=2) (v:=.int .i64 ((2:Nat):Int)) rfl rfl<|?_
        have hk:kind s=2:=by rw [kind_of (s:=s) (by omega) (by omega) (fun j hj=>hw j (by omega)),if_neg (by omega),if_pos (by omega)]
        exact ⟨by rw [hk],rfl⟩
       ·refine sr fun Q168 k169=>qt mv<|qt (x_eqlN (b:=95) rfl rfl)<|qt asg<|nl<|k169 _ _<|cnd (p:=(ch s 0)=95) rfl (fun h170=>?_) (fun h170=>?_)
        ·refine sr fun Q171 k172=>qt asg<|nl<|k172 _ _<|ret<|kr72 _ _<|kr66 _ _<|leave1 (P:=Tryz.prog) (fn:=Tryz.f123) (t:=2) (v:=.int .i64 ((0:Nat):Int)) rfl rfl<|?_
         have hk:kind s=0:=by first | exact kind_len (by omega) | exact kind_w (i:=i) (by omega) (by assumption) | rw [kind_of (s:=s) (by omega) (by omega) (fun j hj=>hw j (by omega)),if_pos (by omega),if_neg (fun h:AllD s=>absurd (hd.2 fun j hj=>h j (by omega)) (by assumption))] | rw [kind_of (s:=s) (by omega) (by omega) (fun j hj=>hw j (by omega)),if_neg (by omega),if_neg (by omega),if_pos (by omega)]
         exact ⟨by rw [hk],rfl⟩
        ·refine skip<|kn71 _ _<|kn65 _ _<|seqK fun Q173 kn174 kr175 ke176=>?_
         refine sr fun Q177 k178=>qt mv<|nl<|k178 _ _<|blockK fun Q179 kn180 kr181 kx182 kb183=>?_
         refine sr fun Q184 k185=>qt (x_eqlS rfl rfl)<|qt asg<|nl<|k185 _ _<|cnd (p:=s.toList=(ByteArray.mk #[105,110,112,117,116]).toList) rfl (fun h186=>?_) (fun h186=>?_)
         ·refine sr fun Q187 k188=>qt asg<|nl<|k188 _ _<|ret<|kr181 _ _<|kr175 _ _<|leave1 (P:=Tryz.prog) (fn:=Tryz.f123) (t:=2) (v:=.int .i64 ((5:Nat):Int)) rfl rfl<|?_
          have hk:kind s=5:=by rw [kind_of (s:=s) (by omega) (by omega) (fun j hj=>hw j (by omega)),if_neg (by omega),if_neg (by omega),if_neg (by omega),if_pos (by assumption)]
          exact ⟨by rw [hk],rfl⟩
         ·refine sr fun Q189 k190=>qt (x_eqlS rfl rfl)<|qt asg<|nl<|k190 _ _<|cnd (p:=s.toList=(ByteArray.mk #[111,117,116,112,117,116]).toList) rfl (fun h191=>?_) (fun h191=>?_)
          ·refine sr fun Q192 k193=>qt asg<|nl<|k193 _ _<|ret<|kr181 _ _<|kr175 _ _<|leave1 (P:=Tryz.prog) (fn:=Tryz.f123) (t:=2) (v:=.int .i64 ((6:Nat):Int)) rfl rfl<|?_
           have hk:kind s=6:=by rw [kind_of (s:=s) (by omega) (by omega) (fun j hj=>hw j (by omega)),if_neg (by omega),if_neg (by omega),if_neg (by omega),if_neg (by assumption),if_pos (by assumption)]
           exact ⟨by rw [hk],rfl⟩
          ·refine sr fun Q194 k195=>qt (x_eqlS rfl rfl)<|qt asg<|nl<|k195 _ _<|cnd (p:=s.toList=(ByteArray.mk #[110,111,116]).toList) rfl (fun h196=>?_) (fun h196=>?_)
           ·refine sr fun Q197 k198=>qt asg<|nl<|k198 _ _<|ret<|kr181 _ _<|kr175 _ _<|leave1 (P:=Tryz.prog) (fn:=Tryz.f123) (t:=2) (v:=.int .i64 ((7:Nat):Int)) rfl rfl<|?_
            have hk:kind s=7:=by rw [kind_of (s:=s) (by omega) (by omega) (fun j hj=>hw j (by omega)),if_neg (by omega),if_neg (by omega),if_neg (by omega),if_neg (by assumption),if_neg (by assumption),if_pos (by assumption)]
            exact ⟨by rw [hk],rfl⟩
           ·refine skip<|kn180 _ _<|kn174 _ _<|?_
            refine sr fun Q199 k200=>qt asg<|nl<|k200 _ _<|ret<|leave1 (P:=Tryz.prog) (fn:=Tryz.f123) (t:=2) (v:=.int .i64 ((1:Nat):Int)) rfl rfl<|?_
            have hk:kind s=1:=by rw [kind_of (s:=s) (by omega) (by omega) (fun j hj=>hw j (by omega)),if_neg (by omega),if_neg (by omega),if_neg (by omega),if_neg (by assumption),if_neg (by assumption),if_neg (by assumption)]
            exact ⟨by rw [hk],rfl⟩
      ·refine st_gn 2 46 rfl rfl (by decide) rfl<|st_gn 2 46 rfl rfl (by decide) rfl<|qt (pkF rfl)<|qt asg<|nl<|k163 _ _<|cndF rfl<|?_
       refine sr fun Q201 k202=>qt mv<|qt (x_eqlN (b:=95) rfl rfl)<|qt asg<|nl<|k202 _ _<|cnd (p:=(ch s 0)=95) rfl (fun h203=>?_) (fun h203=>?_)
       ·refine sr fun Q204 k205=>qt asg<|nl<|k205 _ _<|ret<|kr72 _ _<|kr66 _ _<|leave1 (P:=Tryz.prog) (fn:=Tryz.f123) (t:=2) (v:=.int .i64 ((0:Nat):Int)) rfl rfl<|?_
        have hk:kind s=0:=by first | exact kind_len (by omega) | exact kind_w (i:=i) (by omega) (by assumption) | rw [kind_of (s:=s) (by omega) (by omega) (fun j hj=>hw j (by omega)),if_pos (by omega),if_neg (fun h:AllD s=>absurd (hd.2 fun j hj=>h j (by omega)) (by assumption))] | rw [kind_of (s:=s) (by omega) (by omega) (fun j hj=>hw j (by omega)),if_neg (by omega),if_neg (by omega),if_pos (by omega)]
        exact ⟨by rw [hk],rfl⟩
       ·refine skip<|kn71 _ _<|kn65 _ _<|seqK fun Q206 kn207 kr208 ke209=>?_
        refine sr fun Q210 k211=>qt mv<|nl<|k211 _ _<|blockK fun Q212 kn213 kr214 kx215 kb216=>?_
        refine sr fun Q217 k218=>qt (x_eqlS rfl rfl)<|qt asg<|nl<|k218 _ _<|cnd (p:=s.toList=(ByteArray.mk #[105,110,112,117,116]).toList) rfl (fun h219=>?_) (fun h219=>?_)
        ·refine sr fun Q220 k221=>qt asg<|nl<|k221 _ _<|ret<|kr214 _ _<|kr208 _ _<|leave1 (P:=Tryz.prog) (fn:=Tryz.f123) (t:=2) (v:=.int .i64 ((5:Nat):Int)) rfl rfl<|?_
         have hk:kind s=5:=by rw [kind_of (s:=s) (by omega) (by omega) (fun j hj=>hw j (by omega)),if_neg (by omega),if_neg (by omega),if_neg (by omega),if_pos (by assumption)]
         exact ⟨by rw [hk],rfl⟩
        ·refine sr fun Q222 k223=>qt (x_eqlS rfl rfl)<|qt asg<|nl<|k223 _ _<|cnd (p:=s.toList=(ByteArray.mk #[111,117,116,112,117,116]).toList) rfl (fun h224=>?_) (fun h224=>?_)
         ·refine sr fun Q225 k226=>qt asg<|nl<|k226 _ _<|ret<|kr214 _ _<|kr208 _ _<|leave1 (P:=Tryz.prog) (fn:=Tryz.f123) (t:=2) (v:=.int .i64 ((6:Nat):Int)) rfl rfl<|?_
          have hk:kind s=6:=by rw [kind_of (s:=s) (by omega) (by omega) (fun j hj=>hw j (by omega)),if_neg (by omega),if_neg (by omega),if_neg (by omega),if_neg (by assumption),if_pos (by assumption)]
          exact ⟨by rw [hk],rfl⟩
         ·refine sr fun Q227 k228=>qt (x_eqlS rfl rfl)<|qt asg<|nl<|k228 _ _<|cnd (p:=s.toList=(ByteArray.mk #[110,111,116]).toList) rfl (fun h229=>?_) (fun h229=>?_)
          ·refine sr fun Q230 k231=>qt asg<|nl<|k231 _ _<|ret<|kr214 _ _<|kr208 _ _<|leave1 (P:=Tryz.prog) (fn:=Tryz.f123) (t:=2) (v:=.int .i64 ((7:Nat):Int)) rfl rfl<|?_
           have hk:kind s=7:=by rw [kind_of (s:=s) (by omega) (by omega) (fun j hj=>hw j (by omega)),if_neg (by omega),if_neg (by omega),if_neg (by omega),if_neg (by assumption),if_neg (by assumption),if_pos (by assumption)]
           exact ⟨by rw [hk],rfl⟩
          ·refine skip<|kn213 _ _<|kn207 _ _<|?_
           refine sr fun Q232 k233=>qt asg<|nl<|k233 _ _<|ret<|leave1 (P:=Tryz.prog) (fn:=Tryz.f123) (t:=2) (v:=.int .i64 ((1:Nat):Int)) rfl rfl<|?_
           have hk:kind s=1:=by rw [kind_of (s:=s) (by omega) (by omega) (fun j hj=>hw j (by omega)),if_neg (by omega),if_neg (by omega),if_neg (by omega),if_neg (by assumption),if_neg (by assumption),if_neg (by assumption)]
           exact ⟨by rw [hk],rfl⟩
end Go.Proofs.YtljfgmedbjlkaaaGreat
namespace Go.Proofs.YtljfgmedbjlkaaaGreat
open Go.RowKit Go.Eng Go.QP
theorem T.cf123:CF Tryz.prog 123:=fun _ _=>by kernel_rfl
theorem T.cf262:CF Tryz.prog 262:=fun _ _=>by kernel_rfl
theorem T.cf189:CF Tryz.prog 189:=fun _ _=>by kernel_rfl
end Go.Proofs.YtljfgmedbjlkaaaGreat
