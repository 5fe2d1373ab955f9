/- The functions of Go's library, and one of the program's, that the reckoner meets by contracts: locks, texts compared, a list as an array. -/
import Derived.Test.YtljfgmedbjlkaaaGreatProg
import Derived.Test.YtljfgmedbjlkaaaGreatLkP
import Derived.Laws.Externs
import Derived.Conc.MuLone
namespace Go.Proofs.YtljfgmedbjlkaaaGreat
open Go.Eng Go.Lk Go.RowKit
abbrev muLink:Go.Conc.Locks.MuLink:={ lock:=173,unlock:=174,ilock:=235,iunlock:=236,lockSlow:=289,unlockSlow:=292,disable:=285,enable:=287,acquire:=288,relMerge:=290,cas32:=286,add32:=291,tMutex:=276,tIMutex:=274,tPMutex:=350,tPIMutex:=398,tPI32:=400,tUP:=307,tNoCopy:=271,tU32:=272 }
theorem muLib:Go.Conc.Locks.MuLib Tryz.prog muLink where
 f_lock:=by kernel_rfl
 f_unlock:=by kernel_rfl
 f_ilock:=by kernel_rfl
 f_iunlock:=by kernel_rfl
 f_disable:=by kernel_rfl
 f_enable:=by kernel_rfl
 f_acquire:=by kernel_rfl
 f_relMerge:=by kernel_rfl
 f_cas32:=by kernel_rfl
 f_add32:=by kernel_rfl
 underlying_tIMutex:=by kernel_rfl
 runUnderlying_tIMutex:=fun _=>by kernel_rfl
 sizeOf_tIMutex:=fun _=>by kernel_rfl
 isAgg_tIMutex:=fun _=>by kernel_rfl
 zeroValue_tIMutex:=fun _=>by kernel_rfl
 underlying_tMutex:=by kernel_rfl
 runUnderlying_tMutex:=fun _=>by kernel_rfl
 sizeOf_tMutex:=fun _=>by kernel_rfl
 isAgg_tMutex:=fun _=>by kernel_rfl
 zeroValue_tMutex:=fun _=>by kernel_rfl
 underlying_tPMutex:=by kernel_rfl
 runUnderlying_tPMutex:=fun _=>by kernel_rfl
 sizeOf_tPMutex:=fun _=>by kernel_rfl
 isAgg_tPMutex:=fun _=>by kernel_rfl
 zeroValue_tPMutex:=fun _=>by kernel_rfl
 underlying_tPIMutex:=by kernel_rfl
 runUnderlying_tPIMutex:=fun _=>by kernel_rfl
 sizeOf_tPIMutex:=fun _=>by kernel_rfl
 isAgg_tPIMutex:=fun _=>by kernel_rfl
 zeroValue_tPIMutex:=fun _=>by kernel_rfl
 underlying_tPI32:=by kernel_rfl
 runUnderlying_tPI32:=fun _=>by kernel_rfl
 sizeOf_tPI32:=fun _=>by kernel_rfl
 isAgg_tPI32:=fun _=>by kernel_rfl
 zeroValue_tPI32:=fun _=>by kernel_rfl
 underlying_tUP:=by kernel_rfl
 runUnderlying_tUP:=fun _=>by kernel_rfl
 sizeOf_tUP:=fun _=>by kernel_rfl
 isAgg_tUP:=fun _=>by kernel_rfl
 zeroValue_tUP:=fun _=>by kernel_rfl
 underlying_tNoCopy:=by kernel_rfl
 runUnderlying_tNoCopy:=fun _=>by kernel_rfl
 sizeOf_tNoCopy:=fun _=>by kernel_rfl
 isAgg_tNoCopy:=fun _=>by kernel_rfl
 zeroValue_tNoCopy:=fun _=>by kernel_rfl
 underlying_t21:=by kernel_rfl
 runUnderlying_t21:=fun _=>by kernel_rfl
 sizeOf_t21:=fun _=>by kernel_rfl
 isAgg_t21:=fun _=>by kernel_rfl
 zeroValue_t21:=fun _=>by kernel_rfl
 room_tIMutex:=by kernel_rfl
theorem cmp_run (a b:ByteArray) (w:World):(callFunc 216 #[.string a,.string b]).run Tryz.prog w= .ok (.value (.int .i64 (Go.Lib.compareBytes a.data.toList b.data.toList))) w:=by
 rw [run_callFunc_extern Tryz.func216 (by kernel_rfl) (by kernel_rfl) (by kernel_rfl) (e:=Extern.BytealgCompare.compare) (by kernel_rfl),Lib.run_compareString]
 rfl
theorem cmp_hook:HookAt Tryz.prog 216 cmpH:=cmpH_ok (by kernel_rfl) cmp_run
theorem lock_hook:HookAt Tryz.prog 235 (lockH 0 1):=lockH_ok (fun _ _=>by kernel_rfl) fun a w hc hz=>Go.MuLone.ilock_free muLib a w hc hz
theorem unlock_hook:HookAt Tryz.prog 236 (lockH 1 0):=lockH_ok (fun _ _=>by kernel_rfl) fun a w hc hz=>Go.MuLone.iunlock_held muLib a w hc hz
theorem T.zv359:ZV Tryz.prog 359 (.agg (List.replicate 16 (Value.int .i64 0)).toArray):=fun _=>by kernel_rfl
theorem T.sz359:SZ Tryz.prog 359 16:=fun _=>by kernel_rfl
theorem T.ag359:AG Tryz.prog 359 16:=fun _=>⟨by kernel_rfl,by kernel_rfl⟩
theorem T.sz3:SZ Tryz.prog 3 1:=fun _=>by kernel_rfl
abbrev Z16:List Value:=List.replicate 16 (Value.int .i64 0)
theorem whole_slice (w:World) (n:Nat) (σ:Nat→Value) (x:Operand) (b:Nat) (ty:TypeId) (hx:ev n σ x= .pointer (some ⟨b,0,none⟩)):Ex Tryz.prog (ev n σ) w (.slice 359 x none none none) ty (.slice (some ⟨b,0,none⟩) 16 16):=fun _ _ _ _=>by
 have h3:=T.sz3 w
 simp [execOp,hx,Instr.sliceAt,Instr.sureAddr,run_underlying Tryz.underlying359,Instr.sliceBounds,h3,Addr.add]
theorem whole_fill {cs:List Value} (hm:cs.length≤16) (h1:∀ v ∈ cs,v.oneCell'=true):(cs++Z16.drop cs.length).length=16∧(cs++Z16.drop cs.length).all (·.oneCell')=true:=by
 refine ⟨by simp;omega,?_⟩
 rw [List.all_eq_true]
 intro v hv
 rcases List.mem_append.1 hv with h | h
 ·exact h1 v h
 ·have:=List.mem_of_mem_drop h
  rw [List.mem_replicate] at this
  rw [this.2];rfl
theorem whole_some (g q len cap:Nat) (cs:List Value) (w0:World) (hl:cs.length=len) (hm:len≤16) (hcap:len≤cap) (hc:Cells w0.heap g q cs) (h1:∀ v ∈ cs,v.oneCell'=true) :
  Calls Tryz.prog 241 #[.slice (some ⟨g,q,none⟩) len cap] w0 fun e w'=>e= .returned (.agg (cs++List.replicate (16-len) (Value.int .i64 0)).toArray)∧Ext w0 w':=by
 have H0:=Hp.start No w0
 have hw:=whole_fill (hl▸hm) h1
 refine enter Tryz.func241 rfl 8 Tryz.ntmps241 rfl<|?_
 refine sr fun Q1 k1=>st_e<|Eal H0 T.zv359 fun b2 w2 H2 x2=>nl<|k1 _ _<|?_
 have H2:Hp No w0 w2 [cB b2 359 Z16]:=H2
 refine sr fun Q2 k2=>st_e<|Eal H2 T.zv359 fun b3 w3 H3 x3=>nl<|k2 _ _<|?_
 have H3:Hp No w0 w3 [cB b3 359 Z16,cB b2 359 Z16]:=H3
 have hc3:Cells w3.heap g q cs:=(hc.ext x2).ext x3
 refine sr fun Q3 k3=>qt (whole_slice _ _ _ _ b3 _ rfl)<|qt mv<|st_e<|Ecp (i:=0) (vs:=cs) H3 Tryz.underlying290 (by kernel_rfl) rfl rfl rfl (by simp only [Nat.min_def];split <;> omega) hc3 (by rw [List.length_replicate,Nat.zero_add];omega) h1 fun w4 H4=>nl<|k3 _ _<|?_
 have H4:Hp No w0 w4 [cB b3 359 (cs++Z16.drop cs.length),cB b2 359 Z16]:=by simpa only [List.take_zero,List.nil_append,Nat.zero_add,List.set_cons_zero] using H4
 have hB:Blk w4.heap b3 (cs++Z16.drop cs.length) 359:=H4.at 0 rfl
 refine sr fun Q4 k4=>qt (x_loadA (cs++Z16.drop cs.length) (by rw [hw.1];exact T.ag359) rfl (Blk.cells hB 0 _ (fun j hj=>by rw [Nat.zero_add,List.getElem?_eq_getElem hj])))<|st_s<|Est (k0:=16) (i:=1) (v:=.agg (cs++Z16.drop cs.length).toArray) H4 T.sz359 rfl rfl rfl (by show 16=(cs++Z16.drop cs.length).toArray.size;rw [List.size_toArray,hw.1]) (by show Nat.ble (0+(cs++Z16.drop cs.length).toArray.size) 16=true;rw [List.size_toArray,hw.1];rfl) hw.2 fun w5 H5=>nl<|k4 _ _<|?_
 have e5:splice Z16 0 (cs++Z16.drop cs.length)=cs++List.replicate (16-len) (Value.int .i64 0):=by
  have hd:Z16.drop (cs++Z16.drop cs.length).length=[]:=by rw [hw.1];rfl
  simp only [splice,List.take_zero,List.nil_append,Nat.zero_add,hd,List.append_nil]
  rw [hl];exact congrArg (cs++·) (by rw [List.drop_replicate])
 have H5:Hp No w0 w5 [cB b3 359 (cs++Z16.drop cs.length),cB b2 359 (splice Z16 0 (cs++Z16.drop cs.length))]:=H5
 rw [e5] at H5
 have hB5:Blk w5.heap b2 (cs++List.replicate (16-len) (Value.int .i64 0)) 359:=H5.at 1 rfl
 exact ret<|leaveC (cs:=cs++List.replicate (16-len) (Value.int .i64 0)) rfl (by rw [show (cs++List.replicate (16-len) (Value.int .i64 0)).length=16 by simp;omega];exact T.ag359) rfl (Blk.cells hB5 0 _ (fun j hj=>by rw [Nat.zero_add,List.getElem?_eq_getElem hj])) ⟨rfl,H5.x⟩
theorem whole_none (w0:World):Calls Tryz.prog 241 #[.slice none 0 0] w0 fun e w'=>e= .returned (.agg (List.replicate 16 (Value.int .i64 0)).toArray)∧Ext w0 w':=by
 have H0:=Hp.start No w0
 refine enter Tryz.func241 rfl 8 Tryz.ntmps241 rfl<|?_
 refine sr fun Q1 k1=>st_e<|Eal H0 T.zv359 fun b2 w2 H2 x2=>nl<|k1 _ _<|?_
 have H2:Hp No w0 w2 [cB b2 359 Z16]:=H2
 refine sr fun Q2 k2=>st_e<|Eal H2 T.zv359 fun b3 w3 H3 x3=>nl<|k2 _ _<|?_
 have H3:Hp No w0 w3 [cB b3 359 Z16,cB b2 359 Z16]:=H3
 have hB:Blk w3.heap b3 Z16 359:=H3.at 0 rfl
 refine sr fun Q3 k3=>qt (whole_slice _ _ _ _ b3 _ rfl)<|qt mv<|st_e<|Ecp0 Tryz.underlying290 (by kernel_rfl) rfl rfl rfl<|nl<|k3 _ _<|?_
 refine sr fun Q4 k4=>qt (x_loadA Z16 T.ag359 rfl (Blk.cells hB 0 _ (fun j hj=>by rw [Nat.zero_add,List.getElem?_eq_getElem hj])))<|st_s<|Est (k0:=16) (i:=1) H3 T.sz359 rfl rfl rfl rfl rfl (by kernel_rfl) fun w5 H5=>nl<|k4 _ _<|?_
 have hB5:Blk w5.heap b2 Z16 359:=H5.at 1 rfl
 exact ret<|leaveC (cs:=Z16) rfl T.ag359 rfl (Blk.cells hB5 0 _ (fun j hj=>by rw [Nat.zero_add,List.getElem?_eq_getElem hj])) ⟨rfl,H5.x⟩
theorem whole_hook:HookAt Tryz.prog 241 (wholeH 16):=wholeH_ok (fun _ _=>by kernel_rfl) whole_none (fun g q len cap cs w h1 h2 h3 h4 h5=>whole_some g q len cap cs w h1 h2 h3 h4 h5)
end Go.Proofs.YtljfgmedbjlkaaaGreat
