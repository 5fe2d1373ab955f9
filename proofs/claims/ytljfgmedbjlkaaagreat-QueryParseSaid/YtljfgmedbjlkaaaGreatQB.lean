/- A builder's copyCheck and String, as contracts over pieces. -/
import Derived.Test.YtljfgmedbjlkaaaGreatV8
import Derived.Test.YtljfgmedbjlkaaaGreatLkP
import Derived.Test.YtljfgmedbjlkaaaGreatProg
import Derived.Lib.Builder
import Derived.Lib.MakeNoZero
import Derived.Laws.Externs
import Derived.Shelf.RegionOpenPlain
namespace Go.Proofs.YtljfgmedbjlkaaaGreat
open Go.Eng Go.RowKit
set_option maxHeartbeats 1000000 in
set_option maxRecDepth 100000 in
theorem copy_used (b:Nat) (w:World) (h0:w.cell? ⟨b,0,none⟩=some (.pointer (some ⟨b,0,none⟩))) :
  Calls Tryz.prog 110 #[.pointer (some ⟨b,0,none⟩)] w fun e w'=>e= .returned (.tuple #[])∧w'=w:=by
 obtain ⟨j,hj,_⟩:=Option.map_eq_some_iff.1 (show (Tryz.prog.info? 122).map (·.size)=some 2 by kernel_rfl)
 go_enter Tryz.func110,Tryz.ntmps110
 go_wp2
 rw [Lib.run_neq_ptr_same w _ Tryz.underlying119 hj]
 go_wp2
 go_end0
 exact ⟨rfl,rfl⟩
set_option maxHeartbeats 1000000 in
set_option maxRecDepth 100000 in
theorem copy_fresh (b:Nat) (w:World) (h0:w.cell? ⟨b,0,none⟩=some (.pointer none)) (hsh:w.shape? b=some (122,2)) (hfz:w.frozen? ⟨b,0,none⟩=false) :
  Calls Tryz.prog 110 #[.pointer (some ⟨b,0,none⟩)] w fun e w'=>e= .returned (.tuple #[])∧w'=w.setCell ⟨b,0,none⟩ (.pointer (some ⟨b,0,none⟩)):=by
 obtain ⟨j,hj,hjs⟩:=Option.map_eq_some_iff.1 (show (Tryz.prog.info? 122).map (·.size)=some 2 by kernel_rfl)
 go_enter Tryz.func110,Tryz.ntmps110
 go_wp2
 rw [Lib.run_to_unsafe w ⟨b,0,none⟩ Tryz.underlying119 Tryz.underlying307 hj (by rw [hjs];decide) hsh (Nat.zero_lt_succ 1)]
 simp only [Result.andThen]
 rw [Oper.upon_value]
 go_wp2
 rw [run_callFunc_extern Tryz.func185 (by kernel_rfl) (by kernel_rfl) (by kernel_rfl) (e:=Extern.AbiNoEscape.same) (by kernel_rfl)]
 rw [Lib.run_noEscape]
 simp only [Result.andThen]
 rw [Oper.upon_value]
 go_wp2
 rw [Lib.run_from_unsafe w ⟨b,0,none⟩ Tryz.underlying307 Tryz.underlying119 hj hsh (by kernel_rfl)]
 simp only [Result.andThen]
 rw [Oper.upon_value]
 go_wp2
 go_end0
 exact ⟨rfl,rfl⟩
set_option maxHeartbeats 1000000 in
set_option maxRecDepth 100000 in
theorem built_nil (c o:Nat) (w:World) (h0:w.cell? ⟨c,o+1,none⟩=some (.slice none 0 0)) :
  Calls Tryz.prog 59 #[.pointer (some ⟨c,o,none⟩)] w fun e w'=>e= .returned (.string .empty)∧w'=w.drew:=by
 have c1:w.drew.cell? ⟨c,o+1,none⟩=some (.slice none 0 0):=h0
 have hSD:(Builtin.unsafeSliceData_ #[120] 199 #[.slice none 0 0]).run Tryz.prog w.drew= .ok (.pointer none) w.drew:=rfl
 have hUS:∀ W q,(Builtin.unsafeString_ #[199,3] 9 #[.pointer q,.int .i64 0]).run Tryz.prog W= .ok (.string .empty) W:=fun W q=>Lib.run_unsafeString_none W _ _ _ q
 go_enter Tryz.func59,Tryz.ntmps59
 go_wp2
 go_region
 all_goals (go_wp2;go_ret;exact ⟨rfl,rfl⟩)
set_option maxHeartbeats 1000000 in
set_option maxRecDepth 100000 in
theorem built_some (c o g q cap:Nat) (arr:Array Value) (l:List UInt8) (w:World) (h0:w.cell? ⟨c,o+1,none⟩=some (.slice (some ⟨g,q,none⟩) l.length cap)) (hg:w.heap[g]?=some (.cells arr 5 (0,0))) (hl:l≠[]) (hcap:l.length≤cap) (hmax:l.length≤1099511627776) (hsz:q+l.length≤arr.size)
  (hcell:∀ j x,l[j]?=some x→arr[q+j]?=some (.int .u8 x.toNat)) :
  Calls Tryz.prog 59 #[.pointer (some ⟨c,o,none⟩)] w fun e w'=>e= .returned (.string ⟨l.toArray⟩)∧w'=w.drew.freeze ⟨g,q,none⟩ l.length:=by
 have hlen:l.length≠0:=by simpa using hl
 have c1:w.drew.cell? ⟨c,o+1,none⟩=some (.slice (some ⟨g,q,none⟩) l.length cap):=h0
 have hSD:(Builtin.unsafeSliceData_ #[120] 199 #[.slice (some ⟨g,q,none⟩) l.length cap]).run Tryz.prog w.drew= .ok (.pointer (some ⟨g,q,none⟩)) w.drew:=Lib.run_unsafeSliceData_row _ _ _ _ _ _ (by omega)
 have hUS:(Builtin.unsafeString_ #[199,3] 9 #[.pointer (some ⟨g,q,none⟩),.int .i64 l.length]).run Tryz.prog w.drew= .ok (.string ⟨l.toArray⟩) (w.drew.freeze ⟨g,q,none⟩ l.length):=by
  refine Go.Lk.run_unsafeString_at 199 3 9 5 Tryz.underlying199 (by kernel_rfl) g q arr.size ?_ l hl hsz (by omega) ?_
  ·have hg':w.drew.heap[g]?=some (.cells arr 5 (0,0)):=hg
   simp [World.shape?,hg']
  ·intro j x hx
   have hg':w.drew.heap[g]?=some (.cells arr 5 (0,0)):=hg
   have h1:=hcell j x hx
   unfold Addr.add
   by_cases hj:j=0
   ·subst hj;simpa [World.cell?,hg'] using h1
   ·simpa [World.cell?,hg',hj] using h1
 go_enter Tryz.func59,Tryz.ntmps59
 go_wp2
 go_region
 all_goals (go_wp2;go_ret;exact ⟨rfl,rfl⟩)
end Go.Proofs.YtljfgmedbjlkaaaGreat
