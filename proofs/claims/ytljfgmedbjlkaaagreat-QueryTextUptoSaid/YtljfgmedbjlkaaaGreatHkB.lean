/- The functions of Go's library, and one of the program's, that the reckoner meets by contracts: locks, texts compared, a list as an array. -/
import Derived.Test.YtljfgmedbjlkaaaGreatProg
import Derived.Test.YtljfgmedbjlkaaaGreatLkP
import Derived.Laws.Externs
import Derived.Conc.MuLone
import Derived.Test.YtljfgmedbjlkaaaGreatQB
namespace Go.Proofs.YtljfgmedbjlkaaaGreat
open Go.Eng Go.Lk Go.RowKit
abbrev Nr:Go.Conc.Locks.MuLink:={ lock:=173,unlock:=174,ilock:=235,iunlock:=236,lockSlow:=289,unlockSlow:=292,disable:=285,enable:=287,acquire:=288,relMerge:=290,cas32:=286,add32:=291,tMutex:=276,tIMutex:=274,tPMutex:=350,tPIMutex:=398,tPI32:=400,tUP:=307,tNoCopy:=271,tU32:=272 }
theorem MW:Go.Conc.Locks.MuLib Tryz.prog Nr where
 f_lock:=by kernel_rfl
 f_unlock:=by kernel_rfl
 f_ilock:=by kernel_rfl
 f_iunlock:=by kernel_rfl
 f_disable:=by kernel_rfl
 f_enable:=by kernel_rfl
 f_acquire:=by kernel_rfl
 f_relMerge:=by kernel_rfl
 f_cas32:=by kernel_rfl
 f_add32:=by kernel_rfl
 underlying_tIMutex:=by kernel_rfl
 runUnderlying_tIMutex:=λ_=>by kernel_rfl
 sizeOf_tIMutex:=λ_=>by kernel_rfl
 isAgg_tIMutex:=λ_=>by kernel_rfl
 zeroValue_tIMutex:=λ_=>by kernel_rfl
 underlying_tMutex:=by kernel_rfl
 runUnderlying_tMutex:=λ_=>by kernel_rfl
 sizeOf_tMutex:=λ_=>by kernel_rfl
 isAgg_tMutex:=λ_=>by kernel_rfl
 zeroValue_tMutex:=λ_=>by kernel_rfl
 underlying_tPMutex:=by kernel_rfl
 runUnderlying_tPMutex:=λ_=>by kernel_rfl
 sizeOf_tPMutex:=λ_=>by kernel_rfl
 isAgg_tPMutex:=λ_=>by kernel_rfl
 zeroValue_tPMutex:=λ_=>by kernel_rfl
 underlying_tPIMutex:=by kernel_rfl
 runUnderlying_tPIMutex:=λ_=>by kernel_rfl
 sizeOf_tPIMutex:=λ_=>by kernel_rfl
 isAgg_tPIMutex:=λ_=>by kernel_rfl
 zeroValue_tPIMutex:=λ_=>by kernel_rfl
 underlying_tPI32:=by kernel_rfl
 runUnderlying_tPI32:=λ_=>by kernel_rfl
 sizeOf_tPI32:=λ_=>by kernel_rfl
 isAgg_tPI32:=λ_=>by kernel_rfl
 zeroValue_tPI32:=λ_=>by kernel_rfl
 underlying_tUP:=by kernel_rfl
 runUnderlying_tUP:=λ_=>by kernel_rfl
 sizeOf_tUP:=λ_=>by kernel_rfl
 isAgg_tUP:=λ_=>by kernel_rfl
 zeroValue_tUP:=λ_=>by kernel_rfl
 underlying_tNoCopy:=by kernel_rfl
 runUnderlying_tNoCopy:=λ_=>by kernel_rfl
 sizeOf_tNoCopy:=λ_=>by kernel_rfl
 isAgg_tNoCopy:=λ_=>by kernel_rfl
 zeroValue_tNoCopy:=λ_=>by kernel_rfl
 underlying_t21:=by kernel_rfl
 runUnderlying_t21:=λ_=>by kernel_rfl
 sizeOf_t21:=λ_=>by kernel_rfl
 isAgg_t21:=λ_=>by kernel_rfl
 zeroValue_t21:=λ_=>by kernel_rfl
 room_tIMutex:=by kernel_rfl
theorem Kh (a b:ByteArray) (w:World):(callFunc 216 #[.string a,.string b]).run Tryz.prog w= .ok (.value (.int .i64 (Go.Lib.compareBytes a.data.toList b.data.toList))) w:=by
 rw [run_callFunc_extern Tryz.func216 (by kernel_rfl) (by kernel_rfl) (by kernel_rfl) (e:=Extern.BytealgCompare.compare) (by kernel_rfl),Lib.run_compareString];rfl
theorem FE:fO Tryz.prog 216 NI:=K8 (by kernel_rfl) Kh
theorem DI:fO Tryz.prog 235 (yN 0 1):=xJ (λ_ _=>by kernel_rfl) λa w hc hz=>Go.MuLone.ilock_free MW a w hc hz
theorem zk:fO Tryz.prog 236 (yN 1 0):=xJ (λ_ _=>by kernel_rfl) λa w hc hz=>Go.MuLone.iunlock_held MW a w hc hz
theorem T.zv359:ZV Tryz.prog 359 (.agg (List.replicate 16 (Value.int .i64 0)).toArray):=λ_=>by kernel_rfl
theorem T.sz359:SZ Tryz.prog 359 16:=λ_=>by kernel_rfl
theorem T.ag359:AG Tryz.prog 359 16:=λ_=>⟨by kernel_rfl,by kernel_rfl⟩
theorem T.sz3:SZ Tryz.prog 3 1:=λ_=>by kernel_rfl
abbrev Z16:List Value:=List.replicate 16 (Value.int .i64 0)
theorem qi (w:World) (n:Nat) (σ:Nat->Value) (x:Operand) (b:Nat) (ty:TypeId) (hx:ev n σ x= .pointer (some ⟨b,0,none⟩)):Ex Tryz.prog (ev n σ) w (.slice 359 x none none none) ty (.slice (some ⟨b,0,none⟩) 16 16):=λ_ _ _ _=>by
 have h3:=T.sz3 w;simp [execOp,hx,Instr.sliceAt,Instr.sureAddr,run_underlying Tryz.underlying359,Instr.sliceBounds,h3,Addr.add]
theorem AZ {cs:List Value} (hm:cs.length<=16) (h1:∀ v ∈ cs,v.oneCell'=true):(cs++Z16.drop cs.length).length=16/\(cs++Z16.drop cs.length).all (·.oneCell')=true:=by
 refine ⟨by simp;omega,?_⟩;rw [List.all_eq_true];intro v hv
 rcases List.mem_append.1 hv with h | h
 .exact h1 v h
 .have:=List.mem_of_mem_drop h;rw [List.mem_replicate] at this;rw [this.2];rfl
theorem zO (g q len cap:Nat) (cs:List Value) (w0:World) (hl:cs.length=len) (hm:len<=16) (hcap:len<=cap) (hc:Cells w0.heap g q cs) (h1:∀ v ∈ cs,v.oneCell'=true) :
  Calls Tryz.prog 241 #[.slice (some ⟨g,q,none⟩) len cap] w0 λe w'=>e= .returned (.agg (cs++List.replicate (16-len) (Value.int .i64 0)).toArray)/\Ext w0 w':=by
 have H0:=Hp.start No w0;have hw:=AZ (hl▸hm) h1;refine enter Tryz.func241 rfl 8 Tryz.ntmps241 rfl<|?_;refine sr λQ1 k1=>st_e<|Eal H0 T.zv359 λb2 w2 H2 x2=>nl<|k1 _ _<|?_;have H2:Hp No w0 w2 [cB b2 359 Z16]:=H2;refine sr λQ2 k2=>st_e<|Eal H2 T.zv359 λb3 w3 H3 x3=>nl<|k2 _ _<|?_;have H3:Hp No w0 w3 [cB b3 359 Z16,cB b2 359 Z16]:=H3;have hc3:Cells w3.heap g q cs:=(hc.ext x2).ext x3;refine sr λQ3 k3=>qt (qi _ _ _ _ b3 _ rfl)<|qt mv<|st_e<|Ecp (i:=0) (vs:=cs) H3 Tryz.underlying290 (by kernel_rfl) rfl rfl rfl (by simp only [Nat.min_def];split <;> omega) hc3 (by rw [List.length_replicate,Nat.zero_add];omega) h1 λw4 H4=>nl<|k3 _ _<|?_;have H4:Hp No w0 w4 [cB b3 359 (cs++Z16.drop cs.length),cB b2 359 Z16]:=by simpa only [List.take_zero,List.nil_append,Nat.zero_add,List.set_cons_zero] using H4
 have hB:Blk w4.heap b3 (cs++Z16.drop cs.length) 359:=H4.at 0 rfl;refine sr λQ4 k4=>qt (qI (cs++Z16.drop cs.length) (by rw [hw.1];exact T.ag359) rfl (Blk.cells hB 0 _ (λj hj=>by rw [Nat.zero_add,List.getElem?_eq_getElem hj])))<|st_s<|Est (k0:=16) (i:=1) (v:=.agg (cs++Z16.drop cs.length).toArray) H4 T.sz359 rfl rfl rfl (by show 16=(cs++Z16.drop cs.length).toArray.size;rw [List.size_toArray,hw.1]) (by show Nat.ble (0+(cs++Z16.drop cs.length).toArray.size) 16=true;rw [List.size_toArray,hw.1];rfl) hw.2 λw5 H5=>nl<|k4 _ _<|?_
 have e5:aL Z16 0 (cs++Z16.drop cs.length)=cs++List.replicate (16-len) (Value.int .i64 0):=by
  have hd:Z16.drop (cs++Z16.drop cs.length).length=[]:=by rw [hw.1];rfl
  simp only [aL,List.take_zero,List.nil_append,Nat.zero_add,hd,List.append_nil];rw [hl];exact congrArg (cs++·) (by rw [List.drop_replicate])
 have H5:Hp No w0 w5 [cB b3 359 (cs++Z16.drop cs.length),cB b2 359 (aL Z16 0 (cs++Z16.drop cs.length))]:=H5;rw [e5] at H5;have hB5:Blk w5.heap b2 (cs++List.replicate (16-len) (Value.int .i64 0)) 359:=H5.at 1 rfl;exact ret<|leaveC (cs:=cs++List.replicate (16-len) (Value.int .i64 0)) rfl (by rw [show (cs++List.replicate (16-len) (Value.int .i64 0)).length=16 by simp;omega];exact T.ag359) rfl (Blk.cells hB5 0 _ (λj hj=>by rw [Nat.zero_add,List.getElem?_eq_getElem hj])) ⟨rfl,H5.x⟩
theorem AJ (w0:World):Calls Tryz.prog 241 #[.slice none 0 0] w0 λe w'=>e= .returned (.agg (List.replicate 16 (Value.int .i64 0)).toArray)/\Ext w0 w':=by
 have H0:=Hp.start No w0;refine enter Tryz.func241 rfl 8 Tryz.ntmps241 rfl<|?_;refine sr λQ1 k1=>st_e<|Eal H0 T.zv359 λb2 w2 H2 x2=>nl<|k1 _ _<|?_;have H2:Hp No w0 w2 [cB b2 359 Z16]:=H2;refine sr λQ2 k2=>st_e<|Eal H2 T.zv359 λb3 w3 H3 x3=>nl<|k2 _ _<|?_;have H3:Hp No w0 w3 [cB b3 359 Z16,cB b2 359 Z16]:=H3;have hB:Blk w3.heap b3 Z16 359:=H3.at 0 rfl;refine sr λQ3 k3=>qt (qi _ _ _ _ b3 _ rfl)<|qt mv<|st_e<|Ecp0 Tryz.underlying290 (by kernel_rfl) rfl rfl rfl<|nl<|k3 _ _<|?_;refine sr λQ4 k4=>qt (qI Z16 T.ag359 rfl (Blk.cells hB 0 _ (λj hj=>by rw [Nat.zero_add,List.getElem?_eq_getElem hj])))<|st_s<|Est (k0:=16) (i:=1) H3 T.sz359 rfl rfl rfl rfl rfl (by kernel_rfl) λw5 H5=>nl<|k4 _ _<|?_;have hB5:Blk w5.heap b2 Z16 359:=H5.at 1 rfl;exact ret<|leaveC (cs:=Z16) rfl T.ag359 rfl (Blk.cells hB5 0 _ (λj hj=>by rw [Nat.zero_add,List.getElem?_eq_getElem hj])) ⟨rfl,H5.x⟩
theorem Aq:fO Tryz.prog 241 (Bj 16):=E8 (λ_ _=>by kernel_rfl) AJ (λg q len cap cs w h1 h2 h3 h4 h5=>zO g q len cap cs w h1 h2 h3 h4 h5)
theorem EK:fO Tryz.prog 110 (mH 122):=ut (λ_ _=>by kernel_rfl) (λc w h0 hs hf=>rW c w h0 hs hf) (λc w h0=>vF c w h0)
theorem AB:fO Tryz.prog 59 (zU 5):=Eu (λ_ _=>by kernel_rfl) (λc o w h0=>DQ c o w h0) (λc o g q cap arr l w h0 hg hl hcap hmax hsz hcell=>rp c o g q cap arr l w h0 hg hl hcap (Nat.le_trans hmax (by decide)) hsz hcell)
noncomputable def Bq:List (Nat × Hk):=[(235,.fn (yN 0 1)),(236,.fn (yN 1 0)),(241,.fn (Bj 16)),(216,.fn NI),(110,.fn (mH 122)),(59,.fn (zU 5))]
noncomputable def SH:qg:=nV Bq
theorem NR:HookOK Tryz.prog SH:=zz Bq λx hx=>by
 simp only [Bq,List.mem_cons,List.not_mem_nil,or_false] at hx
 rcases hx with rfl | rfl | rfl | rfl | rfl | rfl
 .exact lG DI
 .exact lG zk
 .exact lG Aq
 .exact lG FE
 .exact lG EK
 .exact lG AB
set_option maxRecDepth 1000000 in
theorem Tt:on (ul Tryz.prog SH 300 (.call 6 []) .e .z) (λr=>some r.1)=some (.bool true):=by kernel_rfl
theorem II (W:World):Calls Tryz.prog 6 #[] W λe W'=>e= .returned (.bool true)/\Ext W W':=by
 have hr:=Tt;obtain ⟨res,e,h⟩:=ah.1 hr;have h1:res.1= .bool true:=Option.some.inj h;refine (Jk (by kernel_rfl) NR e (by kernel_rfl) W (args:=#[]) (by simp only [Rvs])).mono λe W' ⟨x,ρ,h2,h3,h4⟩=>?_;rw [h1] at h4;simp only [Rv] at h4;subst h4;exact ⟨h2,h3⟩
end Go.Proofs.YtljfgmedbjlkaaaGreat
