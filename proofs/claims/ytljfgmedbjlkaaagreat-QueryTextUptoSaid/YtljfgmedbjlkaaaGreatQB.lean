/- A builder's copyCheck and String, as contracts over pieces. -/
import Derived.Test.YtljfgmedbjlkaaaGreatV8
import Derived.Test.YtljfgmedbjlkaaaGreatLkP
import Derived.Test.YtljfgmedbjlkaaaGreatProg
import Derived.Lib.Builder
import Derived.Lib.MakeNoZero
import Derived.Laws.Externs
import Derived.Shelf.RegionOpenPlain
namespace Go.Proofs.YtljfgmedbjlkaaaGreat
open Go.Eng Go.RowKit
set_option maxHeartbeats 1000000 in
set_option maxRecDepth 100000 in
theorem vF (b:Nat) (w:World) (h0:w.cell? ⟨b,0,none⟩=some (.pointer (some ⟨b,0,none⟩))) :
  Calls Tryz.prog 110 #[.pointer (some ⟨b,0,none⟩)] w λe w'=>e= .returned (.tuple #[])/\w'=w:=by
 obtain ⟨j,hj,_⟩:=Option.map_eq_some_iff.1 (show (Tryz.prog.info? 122).map (·.size)=some 2 by kernel_rfl)
 go_enter Tryz.func110,Tryz.ntmps110
 go_wp2
 rw [Lib.run_neq_ptr_same w _ Tryz.underlying119 hj]
 go_wp2
 go_end0
 exact ⟨rfl,rfl⟩
set_option maxHeartbeats 1000000 in
set_option maxRecDepth 100000 in
theorem rW (b:Nat) (w:World) (h0:w.cell? ⟨b,0,none⟩=some (.pointer none)) (hsh:w.shape? b=some (122,2)) (hfz:w.frozen? ⟨b,0,none⟩=false) :
  Calls Tryz.prog 110 #[.pointer (some ⟨b,0,none⟩)] w λe w'=>e= .returned (.tuple #[])/\w'=w.setCell ⟨b,0,none⟩ (.pointer (some ⟨b,0,none⟩)):=by
 obtain ⟨j,hj,hjs⟩:=Option.map_eq_some_iff.1 (show (Tryz.prog.info? 122).map (·.size)=some 2 by kernel_rfl)
 go_enter Tryz.func110,Tryz.ntmps110
 go_wp2
 rw [Lib.run_to_unsafe w ⟨b,0,none⟩ Tryz.underlying119 Tryz.underlying307 hj (by rw [hjs];decide) hsh (Nat.zero_lt_succ 1)];simp only [Result.andThen];rw [Oper.upon_value]
 go_wp2
 rw [run_callFunc_extern Tryz.func185 (by kernel_rfl) (by kernel_rfl) (by kernel_rfl) (e:=Extern.AbiNoEscape.same) (by kernel_rfl)];rw [Lib.run_noEscape];simp only [Result.andThen];rw [Oper.upon_value]
 go_wp2
 rw [Lib.run_from_unsafe w ⟨b,0,none⟩ Tryz.underlying307 Tryz.underlying119 hj hsh (by kernel_rfl)];simp only [Result.andThen];rw [Oper.upon_value]
 go_wp2
 go_end0
 exact ⟨rfl,rfl⟩
set_option maxHeartbeats 1000000 in
set_option maxRecDepth 100000 in
theorem DQ (c o:Nat) (w:World) (h0:w.cell? ⟨c,o+1,none⟩=some (.slice none 0 0)) :
  Calls Tryz.prog 59 #[.pointer (some ⟨c,o,none⟩)] w λe w'=>e= .returned (.string .empty)/\w'=w.drew:=by
 have c1:w.drew.cell? ⟨c,o+1,none⟩=some (.slice none 0 0):=h0;have hSD:(Builtin.unsafeSliceData_ #[120] 199 #[.slice none 0 0]).run Tryz.prog w.drew= .ok (.pointer none) w.drew:=rfl;have hUS:∀ W q,(Builtin.unsafeString_ #[199,3] 9 #[.pointer q,.int .i64 0]).run Tryz.prog W= .ok (.string .empty) W:=λW q=>Lib.run_unsafeString_none W _ _ _ q
 go_enter Tryz.func59,Tryz.ntmps59
 go_wp2
 go_region
 all_goals (go_wp2;go_ret;exact ⟨rfl,rfl⟩)
set_option maxHeartbeats 1000000 in
set_option maxRecDepth 100000 in
theorem rp (c o g q cap:Nat) (arr:Array Value) (l:List UInt8) (w:World) (h0:w.cell? ⟨c,o+1,none⟩=some (.slice (some ⟨g,q,none⟩) l.length cap)) (hg:w.heap[g]?=some (.cells arr 5 (0,0))) (hl:l≠[]) (hcap:l.length<=cap) (hmax:l.length<=1099511627776) (hsz:q+l.length<=arr.size)
  (hcell:∀ j x,l[j]?=some x->arr[q+j]?=some (.int .u8 x.toNat)) :
  Calls Tryz.prog 59 #[.pointer (some ⟨c,o,none⟩)] w λe w'=>e= .returned (.string ⟨l.toArray⟩)/\w'=w.drew.freeze ⟨g,q,none⟩ l.length:=by
 have hlen:l.length≠0:=by simpa using hl
 have c1:w.drew.cell? ⟨c,o+1,none⟩=some (.slice (some ⟨g,q,none⟩) l.length cap):=h0;have hSD:(Builtin.unsafeSliceData_ #[120] 199 #[.slice (some ⟨g,q,none⟩) l.length cap]).run Tryz.prog w.drew= .ok (.pointer (some ⟨g,q,none⟩)) w.drew:=Lib.run_unsafeSliceData_row _ _ _ _ _ _ (by omega)
 have hUS:(Builtin.unsafeString_ #[199,3] 9 #[.pointer (some ⟨g,q,none⟩),.int .i64 l.length]).run Tryz.prog w.drew= .ok (.string ⟨l.toArray⟩) (w.drew.freeze ⟨g,q,none⟩ l.length):=by
  refine Go.Lk.run_unsafeString_at 199 3 9 5 Tryz.underlying199 (by kernel_rfl) g q arr.size ?_ l hl hsz (by omega) ?_
  .have hg':w.drew.heap[g]?=some (.cells arr 5 (0,0)):=hg;simp [World.shape?,hg']
  .intro j x hx;have hg':w.drew.heap[g]?=some (.cells arr 5 (0,0)):=hg;have h1:=hcell j x hx;unfold Addr.add
   by_cases hj:j=0
   .subst hj;simpa [World.cell?,hg'] using h1
   .simpa [World.cell?,hg',hj] using h1
 go_enter Tryz.func59,Tryz.ntmps59
 go_wp2
 go_region
 all_goals (go_wp2;go_ret;exact ⟨rfl,rfl⟩)
theorem BO (b:Nat) (p:Option Addr) (v:Value) (w0:World) (hp:p=none\/p=some ⟨b,0,none⟩) (hB:Go.Eng.Blk w0.heap b [.pointer p,v] 122) :
  Calls Tryz.prog 110 #[.pointer (some ⟨b,0,none⟩)] w0 λe w'=>e= .returned (.tuple #[])/\Hp (λz=>z=b) w0 w' [cB b 122 [.pointer (some ⟨b,0,none⟩),v]]:=by
 have H0:Hp (λz=>z=b) w0 w0 [cB b 122 [.pointer p,v]]:=Hp.start1 (c:=cB b 122 [.pointer p,v]) hB (λz hz=>by have hz:z=b:=hz;subst hz;exact hB.lt);have hc:w0.cell? ⟨b,0,none⟩=some (.pointer p):=by unfold Go.Eng.Blk at hB;simp [World.cell?,hB]
 rcases hp with rfl | rfl
 .have hsh:w0.shape? b=some (122,2):=by unfold Go.Eng.Blk at hB;simp [World.shape?,hB]
  have hfz:w0.frozen? ⟨b,0,none⟩=false:=by unfold Go.Eng.Blk at hB;simp [World.frozen?,hB]
  refine (rW b w0 hc hsh hfz).mono λe w' ⟨he,hw⟩=>⟨he,?_⟩;subst hw;exact H0.pt 0 rfl (Go.Lk.setCell_pt hB (by simp))
 .refine (vF b w0 hc).mono λe w' ⟨he,hw⟩=>⟨he,?_⟩;subst hw;exact H0
theorem Kf (b m c:Nat) (p a:Option Addr) (xs:List Nat) (S:Nat->Prop) (w0:World) (H:Hp S w0 w0 [cB b 122 [.pointer p,.slice a m c],cQ 5 eY a m c xs]) (hm:0<m) (hm2:m<=1099511627776) (hx:∀ x ∈ xs,x<256) :
  Calls Tryz.prog 59 #[.pointer (some ⟨b,0,none⟩)] w0 λe w'=>e= .returned (.string (sN xs))/\Hp (λz=>S z\/kh a c z) w0 w' [cB b 122 [.pointer p,.slice a m c]]:=by
 have hB:Go.Eng.Blk w0.heap b [.pointer p,.slice a m c] 122:=H.at 0 rfl;have hQ:OwnQ w0.heap 5 1 a m c (flat eY.enc xs):=H.at 1 rfl;obtain ⟨hl,⟨h1,_⟩ | ⟨g,R,hc0,rfl,hG,hmc,hcm,hlen⟩⟩:=hQ
 .omega
 have hl:xs.length=m:=by rw [aI eY.len] at hl;exact Nat.eq_of_mul_eq_mul_right eY.pos hl
 have hcell:w0.cell? ⟨b,0+1,none⟩=some (.slice (some ⟨g,0,none⟩) (xs.map UInt8.ofNat).length c):=by
  rw [List.length_map,hl];unfold Go.Eng.Blk at hB;simp [World.cell?,hB]
 have hto:∀ c ∈ xs,(UInt8.ofNat c).toNat=c:=λc hc=>by simp [Nat.mod_eq_of_lt (hx c hc)]
 have hsz:(flat eY.enc xs++R).length=c:=by simpa using hlen
 have hfl:(flat eY.enc xs).length=m:=by rw [iZ,List.length_map,hl]
 refine (rp b 0 g 0 c (flat eY.enc xs++R).toArray (xs.map UInt8.ofNat) w0 hcell hG (by intro h0;have:=congrArg List.length h0;rw [List.length_map,hl,List.length_nil] at this;omega) (by rw [List.length_map];omega) (by rw [List.length_map];omega) (by rw [List.length_map,List.size_toArray,hsz];omega) (λj x hj=>?_)).mono λe w' ⟨he,hw⟩=>?_
 .rw [List.getElem?_map] at hj
  cases hxj:xs[j]? with
  | none=>rw [hxj] at hj;cases hj
  | some q=>
   rw [hxj] at hj
   cases hj
   have hjl:=(List.getElem?_eq_some_iff.1 hxj).1
   rw [Nat.zero_add,List.getElem?_toArray,List.getElem?_append_left (by omega),iZ,List.getElem?_map,hxj,hto q (List.mem_of_getElem? hxj)];rfl
 .subst he hw;obtain ⟨o',hpt⟩:=Go.Lk.pt_frozen (w:=w0.drew) (g:=g) hG 0 (xs.map UInt8.ofNat).length;have hne:b≠g:=λe0=>H.ne 0 1 rfl rfl (by decide) b rfl ⟨hc0,by rw [e0];rfl⟩
  have hM:Mod (λz=>S z\/kh (some ⟨g,0,none⟩) c z) w0 (w0.drew.freeze ⟨g,0,none⟩ (xs.map UInt8.ofNat).length):=by
   have h1:Mod (λz=>S z\/kh (some ⟨g,0,none⟩) c z) w0.drew (w0.drew.freeze ⟨g,0,none⟩ (xs.map UInt8.ofNat).length):=(Mod.refl _ w0.drew).pt hpt (Or.inl (Or.inr ⟨hc0,rfl⟩));exact ⟨h1.os,h1.tape,h1.output,h1.size,h1.block⟩
  refine ⟨?_,hM,λch hch=>?_,λch hch z hz=>?_,List.pairwise_singleton _ _⟩
  .congr 2
   unfold sN strOfNums
   congr 2
   rw [List.map_map];exact List.map_congr_left λq _=>by simp
  .rw [List.mem_singleton] at hch;subst hch;show Go.Eng.Blk _ b _ 122;unfold Go.Eng.Blk;rw [hpt.old hne];exact hB
  .rw [List.mem_singleton] at hch;subst hch;have hz:z=b:=hz;subst hz;refine ⟨by rw [hpt.size];exact hB.lt,?_⟩
   rcases (H.own _ (List.mem_cons_self ..) z rfl).2 with h | h
   .exact .inl (.inl h)
   .exact .inr h
end Go.Proofs.YtljfgmedbjlkaaaGreat
