/- slices.SortFunc at roles and at what hangs on what (the kit's shelf laid at this program), with the orders that they go by. -/
import Derived.Test.YtljfgmedbjlkaaaGreatPGB
import Derived.Test.YtljfgmedbjlkaaaGreatVT
import Derived.Shelf.Small.Strs
import Derived.Shelf.Small.Bits
namespace Go.Proofs
open Go.Shelf
def Tryz.sortRole_ren:Go.Shelf.Ren:=⟨fun | 6=>87 | 15=>150 | 14=>149 | 28=>214 | 29=>215 | 20=>206 | 21=>207 | 22=>208 | 23=>209 | 24=>210 | 25=>211 | 26=>212 | 27=>213 | 46=>268 | 47=>269 | 48=>270 | 49=>271 | 50=>272 | 57=>312 | n=>n,fun | 22=>95 | 24=>100 | 25=>167 | 3=>3 | 39=>243 | 0=>0 | 53=>272 | 55=>329 | 4=>4 | 46=>322 | 45=>321 | 50=>301 | 5=>5 | 9=>9 | 66=>385 | 70=>389 | 76=>435 | 77=>436 | n=>n,fun | n=>n⟩
theorem Tryz.sortRole:Go.Proofs.SlLaysF0.n6 Tryz.prog Tryz.sortRole_ren:={
 mixed:=by kernel_rfl
 f6:=⟨Tryz.f87.name,by decide,Tryz.func87.trans (congrArg some (by kernel_rfl))⟩
 f14:=⟨Tryz.f149.name,by decide,Tryz.func149.trans (congrArg some (by kernel_rfl))⟩
 f15:=Tryz.func150.trans (congrArg some (by kernel_rfl))
 f20:=⟨Tryz.f206.name,by decide,Tryz.func206.trans (congrArg some (by kernel_rfl))⟩
 f21:=⟨Tryz.f207.name,by decide,Tryz.func207.trans (congrArg some (by kernel_rfl))⟩
 f22:=⟨Tryz.f208.name,by decide,Tryz.func208.trans (congrArg some (by kernel_rfl))⟩
 f23:=⟨Tryz.f209.name,by decide,Tryz.func209.trans (congrArg some (by kernel_rfl))⟩
 f24:=⟨Tryz.f210.name,by decide,Tryz.func210.trans (congrArg some (by kernel_rfl))⟩
 f25:=⟨Tryz.f211.name,by decide,Tryz.func211.trans (congrArg some (by kernel_rfl))⟩
 f26:=⟨Tryz.f212.name,by decide,Tryz.func212.trans (congrArg some (by kernel_rfl))⟩
 f27:=⟨Tryz.f213.name,by decide,Tryz.func213.trans (congrArg some (by kernel_rfl))⟩
 f28:=Tryz.func214.trans (congrArg some (by kernel_rfl))
 f29:=Tryz.func215.trans (congrArg some (by kernel_rfl))
 f46:=⟨Tryz.f268.name,by decide,Tryz.func268.trans (congrArg some (by kernel_rfl))⟩
 f47:=Tryz.func269.trans (congrArg some (by kernel_rfl))
 f48:=Tryz.func270.trans (congrArg some (by kernel_rfl))
 f49:=⟨Tryz.f271.name,by decide,Tryz.func271.trans (congrArg some (by kernel_rfl))⟩
 f50:=⟨Tryz.f272.name,by decide,Tryz.func272.trans (congrArg some (by kernel_rfl))⟩
 f57:=⟨Tryz.f312.name,by decide,Tryz.func312.trans (congrArg some (by kernel_rfl))⟩
 t0:=Tryz.underlying0
 a0:=Tryz.isAgg0
 z0:=Tryz.sizeOf0
 v0:=Tryz.zeroValue0
 t3:=Tryz.underlying3
 a3:=Tryz.isAgg3
 z3:=Tryz.sizeOf3
 v3:=Tryz.zeroValue3
 t4:=Tryz.underlying4
 a4:=Tryz.isAgg4
 z4:=Tryz.sizeOf4
 v4:=Tryz.zeroValue4
 t5:=Tryz.underlying5
 a5:=Tryz.isAgg5
 z5:=Tryz.sizeOf5
 v5:=Tryz.zeroValue5
 t9:=Tryz.underlying9
 a9:=Tryz.isAgg9
 z9:=Tryz.sizeOf9
 v9:=Tryz.zeroValue9
 t22:=Tryz.underlying95
 a22:=Tryz.isAgg95
 z22:=Tryz.sizeOf95
 v22:=Tryz.zeroValue95
 t25:=Tryz.underlying167
 a25:=Tryz.isAgg167
 z25:=Tryz.sizeOf167
 v25:=Tryz.zeroValue167
 t39:=Tryz.underlying243
 a39:=Tryz.isAgg243
 z39:=Tryz.sizeOf243
 v39:=Tryz.zeroValue243
 t45:=Tryz.underlying321
 a45:=Tryz.isAgg321
 z45:=Tryz.sizeOf321
 v45:=Tryz.zeroValue321
 t46:=Tryz.underlying322
 a46:=Tryz.isAgg322
 z46:=Tryz.sizeOf322
 v46:=Tryz.zeroValue322
 t50:=Tryz.underlying301
 a50:=Tryz.isAgg301
 z50:=Tryz.sizeOf301
 v50:=Tryz.zeroValue301
 t53:=Tryz.underlying272
 a53:=Tryz.isAgg272
 z53:=Tryz.sizeOf272
 v53:=Tryz.zeroValue272
 t55:=Tryz.underlying329
 a55:=Tryz.isAgg329
 z55:=Tryz.sizeOf329
 v55:=Tryz.zeroValue329
 t66:=Tryz.underlying385
 a66:=Tryz.isAgg385
 z66:=Tryz.sizeOf385
 v66:=Tryz.zeroValue385
 t70:=Tryz.underlying389
 a70:=Tryz.isAgg389
 z70:=Tryz.sizeOf389
 v70:=Tryz.zeroValue389
 t76:=Tryz.underlying435
 a76:=Tryz.isAgg435
 z76:=Tryz.sizeOf435
 v76:=Tryz.zeroValue435
 t77:=Tryz.underlying436
 a77:=Tryz.isAgg436
 z77:=Tryz.sizeOf436
 v77:=Tryz.zeroValue436 }
def Tryz.sortDep_ren:Go.Shelf.Ren:=⟨fun | 6=>201 | 15=>150 | 14=>267 | 28=>214 | 29=>215 | 20=>304 | 21=>305 | 22=>306 | 23=>307 | 24=>308 | 25=>309 | 26=>310 | 27=>311 | 46=>337 | 47=>269 | 48=>270 | 49=>338 | 50=>339 | 57=>355 | n=>n,fun | 22=>222 | 24=>227 | 25=>316 | 3=>3 | 39=>243 | 0=>0 | 53=>272 | 55=>329 | 4=>4 | 46=>322 | 45=>321 | 50=>301 | 5=>5 | 9=>9 | 66=>385 | 70=>389 | 76=>435 | 77=>436 | n=>n,fun | n=>n⟩
theorem Tryz.sortDep:Go.Proofs.SlLaysF0.n6 Tryz.prog Tryz.sortDep_ren:={
 mixed:=by kernel_rfl
 f6:=⟨Tryz.f201.name,by decide,Tryz.func201.trans (congrArg some (by kernel_rfl))⟩
 f14:=⟨Tryz.f267.name,by decide,Tryz.func267.trans (congrArg some (by kernel_rfl))⟩
 f15:=Tryz.func150.trans (congrArg some (by kernel_rfl))
 f20:=⟨Tryz.f304.name,by decide,Tryz.func304.trans (congrArg some (by kernel_rfl))⟩
 f21:=⟨Tryz.f305.name,by decide,Tryz.func305.trans (congrArg some (by kernel_rfl))⟩
 f22:=⟨Tryz.f306.name,by decide,Tryz.func306.trans (congrArg some (by kernel_rfl))⟩
 f23:=⟨Tryz.f307.name,by decide,Tryz.func307.trans (congrArg some (by kernel_rfl))⟩
 f24:=⟨Tryz.f308.name,by decide,Tryz.func308.trans (congrArg some (by kernel_rfl))⟩
 f25:=⟨Tryz.f309.name,by decide,Tryz.func309.trans (congrArg some (by kernel_rfl))⟩
 f26:=⟨Tryz.f310.name,by decide,Tryz.func310.trans (congrArg some (by kernel_rfl))⟩
 f27:=⟨Tryz.f311.name,by decide,Tryz.func311.trans (congrArg some (by kernel_rfl))⟩
 f28:=Tryz.func214.trans (congrArg some (by kernel_rfl))
 f29:=Tryz.func215.trans (congrArg some (by kernel_rfl))
 f46:=⟨Tryz.f337.name,by decide,Tryz.func337.trans (congrArg some (by kernel_rfl))⟩
 f47:=Tryz.func269.trans (congrArg some (by kernel_rfl))
 f48:=Tryz.func270.trans (congrArg some (by kernel_rfl))
 f49:=⟨Tryz.f338.name,by decide,Tryz.func338.trans (congrArg some (by kernel_rfl))⟩
 f50:=⟨Tryz.f339.name,by decide,Tryz.func339.trans (congrArg some (by kernel_rfl))⟩
 f57:=⟨Tryz.f355.name,by decide,Tryz.func355.trans (congrArg some (by kernel_rfl))⟩
 t0:=Tryz.underlying0
 a0:=Tryz.isAgg0
 z0:=Tryz.sizeOf0
 v0:=Tryz.zeroValue0
 t3:=Tryz.underlying3
 a3:=Tryz.isAgg3
 z3:=Tryz.sizeOf3
 v3:=Tryz.zeroValue3
 t4:=Tryz.underlying4
 a4:=Tryz.isAgg4
 z4:=Tryz.sizeOf4
 v4:=Tryz.zeroValue4
 t5:=Tryz.underlying5
 a5:=Tryz.isAgg5
 z5:=Tryz.sizeOf5
 v5:=Tryz.zeroValue5
 t9:=Tryz.underlying9
 a9:=Tryz.isAgg9
 z9:=Tryz.sizeOf9
 v9:=Tryz.zeroValue9
 t22:=Tryz.underlying222
 a22:=Tryz.isAgg222
 z22:=Tryz.sizeOf222
 v22:=Tryz.zeroValue222
 t25:=Tryz.underlying316
 a25:=Tryz.isAgg316
 z25:=Tryz.sizeOf316
 v25:=Tryz.zeroValue316
 t39:=Tryz.underlying243
 a39:=Tryz.isAgg243
 z39:=Tryz.sizeOf243
 v39:=Tryz.zeroValue243
 t45:=Tryz.underlying321
 a45:=Tryz.isAgg321
 z45:=Tryz.sizeOf321
 v45:=Tryz.zeroValue321
 t46:=Tryz.underlying322
 a46:=Tryz.isAgg322
 z46:=Tryz.sizeOf322
 v46:=Tryz.zeroValue322
 t50:=Tryz.underlying301
 a50:=Tryz.isAgg301
 z50:=Tryz.sizeOf301
 v50:=Tryz.zeroValue301
 t53:=Tryz.underlying272
 a53:=Tryz.isAgg272
 z53:=Tryz.sizeOf272
 v53:=Tryz.zeroValue272
 t55:=Tryz.underlying329
 a55:=Tryz.isAgg329
 z55:=Tryz.sizeOf329
 v55:=Tryz.zeroValue329
 t66:=Tryz.underlying385
 a66:=Tryz.isAgg385
 z66:=Tryz.sizeOf385
 v66:=Tryz.zeroValue385
 t70:=Tryz.underlying389
 a70:=Tryz.isAgg389
 z70:=Tryz.sizeOf389
 v70:=Tryz.zeroValue389
 t76:=Tryz.underlying435
 a76:=Tryz.isAgg435
 z76:=Tryz.sizeOf435
 v76:=Tryz.zeroValue435
 t77:=Tryz.underlying436
 a77:=Tryz.isAgg436
 z77:=Tryz.sizeOf436
 v77:=Tryz.zeroValue436 }
def Tryz.strCompare_ren:Go.Shelf.Ren:=⟨fun | 106=>89 | 213=>151 | 265=>216 | n=>n,fun | 9=>9 | 3=>3 | n=>n,fun | n=>n⟩
theorem Tryz.strCompare:Go.Proofs.Lays.n106 Tryz.prog Tryz.strCompare_ren:={
 mixed:=by kernel_rfl
 f106:=Tryz.func89.trans (congrArg some (by kernel_rfl))
 f213:=Tryz.func151.trans (congrArg some (by kernel_rfl))
 f265:=Tryz.func216.trans (congrArg some (by kernel_rfl))
 t3:=Tryz.underlying3
 a3:=Tryz.isAgg3
 z3:=Tryz.sizeOf3
 v3:=Tryz.zeroValue3
 t9:=Tryz.underlying9
 a9:=Tryz.isAgg9
 z9:=Tryz.sizeOf9
 v9:=Tryz.zeroValue9 }
end Go.Proofs
namespace Go.Proofs.YtljfgmedbjlkaaaGreat
open Go.RowKit Go.Eng Go.QP Go.Sort Go.Shelf Go.Lib
abbrev eRo:En Ro:=⟨rQ,7,λ_=>rfl,by decide,λ_=>rfl⟩
abbrev eDp:En Dp:=⟨λx=>[.string x.1,.string x.2.1,.bool x.2.2],3,λ_=>rfl,by decide,λ_=>rfl⟩
abbrev cb (a b:ByteArray):Int:=compareBytes a.data.toList b.data.toList
theorem Er {a b:ByteArray} (h:cb a b=0):a=b:=ByteArray.ext (Array.toList_inj.1 (MP h))
def J8 (x y:Ro):Int:=cb x.1 y.1
def mG (x y:Dp):Int:=if cb x.1 y.1≠0 then cb x.1 y.1 else if cb x.2.1 y.2.1≠0 then cb x.2.1 y.2.1 else if x.2.2=y.2.2 then 0 else if y.2.2=true then -1 else 1
set_option maxHeartbeats 1000000 in
theorem QW (x y:Ro) (W:World):Calls Tryz.prog 88 #[.agg (rQ x).toArray,.agg (rQ y).toArray] W λe w'=>e= .returned (.int .i64 (J8 x y))/\∃ q os',w'=grow (W.drewN q) os':=by
 have hcon:=λW'=>Any.strings_Compare Tryz.strCompare x.1 y.1 W'
 change ∀ W',Calls Tryz.prog 89 _ _ _ at hcon
 unfold J8 cb rQ;generalize compareBytes x.1.data.toList y.1.data.toList=r at hcon ⊢
 go_enter Tryz.func88,Tryz.ntmps88
 go_wp2_with (go_at_call 89;refine (hcon _).mono ?_;rintro e w' ⟨rfl,rfl⟩)
 go_ret
 exact ⟨rfl,0,_,by rw [alloc_eq_grow,alloc_eq_grow,grow_grow];rfl⟩
set_option maxHeartbeats 2000000 in
theorem ND (x y:Dp) (W:World):Calls Tryz.prog 202 #[.agg (eDp.enc x).toArray,.agg (eDp.enc y).toArray] W λe w'=>e= .returned (.int .i64 (mG x y))/\∃ q os',w'=grow (W.drewN q) os':=by
 obtain ⟨a,b,c⟩:=x;obtain ⟨a',b',c'⟩:=y;have hcon:∃ C:ByteArray->ByteArray->Int,C=cb/\∀ a b W',Calls Tryz.prog 89 #[.string a,.string b] W' λe w'=>e= .returned (.int .i64 (C a b))/\w'=W':=⟨cb,rfl,λa b W'=>Any.strings_Compare Tryz.strCompare a b W'⟩;unfold mG;obtain ⟨C,hC,hcon⟩:=hcon;rw [← hC];clear hC
 go_enter Tryz.func202,Tryz.ntmps202
 go_wp2_with (go_at_call 89;refine (hcon _ _ _).mono ?_;rintro e w' ⟨rfl,rfl⟩)
 all_goals go_ret
 all_goals refine ⟨?_,0,_,by rw [alloc_eq_grow,alloc_eq_grow,grow_grow];rfl⟩
 all_goals first | rfl | simp_all
theorem iU (a b:ByteArray):cb b a= - cb a b:=Dk _ _
theorem ow {a b c:ByteArray} (h:cb a b<0) (k:cb b c<0):cb a c<0:=x8 h k
theorem Qv:SWO (ltOf J8) where
 irrefl x:=by unfold ltOf J8;rw [show cb x.1 x.1=0 from dY _];rfl
 trans x y z h k:=by
  unfold ltOf J8 at *;exact decide_eq_true (ow (of_decide_eq_true h) (of_decide_eq_true k))
 ntrans x y z h k:=by
  unfold ltOf J8 at *;have h:=of_decide_eq_false h;have k:=of_decide_eq_false k;refine decide_eq_false λq=>?_;have e1:=iU x.1 y.1;have e2:=iU y.1 z.1;have e3:=iU x.1 z.1
  by_cases h0:cb x.1 y.1=0
  .rw [Er h0] at q;exact k q
  .by_cases k0:cb y.1 z.1=0
   .rw [← Er k0] at q;exact h q
   .have:=ow (show cb z.1 y.1<0 by omega) (show cb y.1 x.1<0 by omega);omega
theorem ue (x y:Dp):ltOf mG x y=true↔cb x.1 y.1<0\/x.1=y.1/\(cb x.2.1 y.2.1<0\/x.2.1=y.2.1/\x.2.2=false/\y.2.2=true):=by
 have hs:∀ a:ByteArray,cb a a=0:=λa=>dY _;unfold ltOf mG;rw [decide_eq_true_iff]
 by_cases h1:cb x.1 y.1=0
 .have e1:=Er h1;rw [if_neg (not_not_intro h1)]
  by_cases h2:cb x.2.1 y.2.1=0
  .have e2:=Er h2;rw [if_neg (not_not_intro h2),h1,h2];simp only [e1,e2,true_and,Int.lt_irrefl,false_or];cases x.2.2 <;> cases y.2.2 <;> simp
  .rw [if_pos h2,h1];simp only [e1,true_and,Int.lt_irrefl,false_or]
   constructor
   .exact .inl
   .rintro (h | ⟨h,_⟩)
    .exact h
    .rw [h] at h2;exact absurd (hs _) h2
 .rw [if_pos h1]
  constructor
  .exact .inl
  .rintro (h | ⟨h,_⟩)
   .exact h
   .rw [h] at h1;exact absurd (hs _) h1
theorem swoDp:SWO (ltOf mG) where
 irrefl x:=by
  rw [Bool.eq_false_iff];intro h;rw [ue] at h;have e1:cb x.1 x.1=0:=dY _;have e2:cb x.2.1 x.2.1=0:=dY _
  rcases h with h | ⟨_,h | ⟨_,h3,h4⟩⟩
  .omega
  .omega
  .rw [h3] at h4;cases h4
 trans x y z h k:=by
  rw [ue] at *
  rcases h with h | ⟨h1,h⟩
  .rcases k with k | ⟨k1,_⟩
   .exact .inl (ow h k)
   .exact .inl (by rw [← k1];exact h)
  .rcases k with k | ⟨k1,k⟩
   .exact .inl (by rw [h1];exact k)
   .refine .inr ⟨h1.trans k1,?_⟩
    rcases h with h | ⟨h2,h3,h4⟩
    .rcases k with k | ⟨k2,_⟩
     .exact .inl (ow h k)
     .exact .inl (by rw [← k2];exact h)
    .rcases k with k | ⟨k2,k3,k4⟩
     .exact .inl (by rw [h2];exact k)
     .rw [h4] at k3;cases k3
 ntrans x y z h k:=by
  have tot:∀ a b:ByteArray,cb a b<0\/a=b\/cb b a<0:=λa b=>by
   have:=iU a b
   by_cases h0:cb a b=0
   .exact .inr (.inl (Er h0))
   .omega
  have asym:∀ {a b:ByteArray},cb a b<0->¬ cb b a<0:=λ{a b} h1 h2=>by have:=iU a b;omega
  have ne:∀ {a b:ByteArray},cb a b<0->a≠b:=λ{a b} h1 h2=>by rw [h2,show cb b b=0 from dY _] at h1;omega
  rw [Bool.eq_false_iff] at *;intro q;rw [Ne,ue] at h k;rw [ue] at q
  rcases tot x.1 y.1 with a | a | a
  .exact h (.inl a)
  .rcases q with q | ⟨q1,q⟩
   .exact k (.inl (by rw [← a];exact q))
   .have b:y.1=z.1:=a.symm.trans q1
    rcases tot x.2.1 y.2.1 with c | c | c
    .exact h (.inr ⟨a,.inl c⟩)
    .rcases q with q | ⟨q2,q3,q4⟩
     .exact k (.inr ⟨b,.inl (by rw [← c];exact q)⟩)
     .cases hy:y.2.2 with
      | true=>exact h (.inr ⟨a,.inr ⟨c,q3,hy⟩⟩)
      | false=>exact k (.inr ⟨b,.inr ⟨c.symm.trans q2,hy,q4⟩⟩)
    .rcases q with q | ⟨q2,_⟩
     .exact k (.inr ⟨b,.inl (ow c q)⟩)
     .exact k (.inr ⟨b,.inl (by rw [← q2];exact c)⟩)
  .rcases q with q | ⟨q1,_⟩
   .exact k (.inl (ow a q))
   .exact k (.inl (by rw [← q1];exact a))
theorem Oi {T:TypeId} {a:Option Addr} {m c:Nat} {xs:List Ro} {S:Nat->Prop} {w0:World} (H:Hp S w0 w0 [cQ T eRo a m c xs]) (hm:m<4611686018427387904) :
  Calls Tryz.prog 87 #[.slice a m c,.func (.func 88) #[] #[]] w0 λe w'=>(∃ v,e= .returned v)/\∃ xs',List.Perm xs' xs/\(∀ i j,i<j->j<m->ltOf J8 (el xs' j) (el xs' i)=false)/\Hp S w0 w' [cQ T eRo a m c xs']:=
 rE (λblk cap d w hH hb hs=>AnyQ.slices_SortFunc Tryz.sortRole 7 Tryz.isAgg100 Tryz.sizeOf100 rQ (λ_=>rfl) (λx v hv=>List.all_eq_true.1 (eRo.ones x) v hv) J8 Qv 88 #[] blk 0 cap d w (enters_of Tryz.func88 (by kernel_rfl) rfl) (λ_ _ _ _ x y=>QW x y _) hH hb hs)
  (λp cap w=>AnyF.slices_SortFunc_none Tryz.sortRole p cap _ w) H hm
theorem KA {T:TypeId} {a:Option Addr} {m c:Nat} {xs:List Dp} {S:Nat->Prop} {w0:World} (H:Hp S w0 w0 [cQ T eDp a m c xs]) (hm:m<4611686018427387904) :
  Calls Tryz.prog 201 #[.slice a m c,.func (.func 202) #[] #[]] w0 λe w'=>(∃ v,e= .returned v)/\∃ xs',List.Perm xs' xs/\(∀ i j,i<j->j<m->ltOf mG (el xs' j) (el xs' i)=false)/\Hp S w0 w' [cQ T eDp a m c xs']:=
 rE (λblk cap d w hH hb hs=>AnyQ.slices_SortFunc Tryz.sortDep 3 Tryz.isAgg227 Tryz.sizeOf227 eDp.enc (λ_=>rfl) (λx v hv=>List.all_eq_true.1 (eDp.ones x) v hv) mG swoDp 202 #[] blk 0 cap d w (enters_of Tryz.func202 (by kernel_rfl) rfl) (λ_ _ _ _ x y=>ND x y _) hH hb hs)
  (λp cap w=>AnyF.slices_SortFunc_none Tryz.sortDep p cap _ w) H hm
end Go.Proofs.YtljfgmedbjlkaaaGreat
