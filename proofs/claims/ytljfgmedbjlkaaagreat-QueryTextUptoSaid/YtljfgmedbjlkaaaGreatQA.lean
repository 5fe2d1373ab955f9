/- Plain law of the question's text: bytes, words, kinds. -/
import Derived.Test.YtljfgmedbjlkaaaGreatSNum
import Derived.Test.YtljfgmedbjlkaaaGreatV3
import Derived.Test.YtljfgmedbjlkaaaGreatV8
namespace Go.QP
open Go.Eng
theorem bq {p:Prop} [Decidable p] {b:Bool} (h:p↔b=true):(Value.bool (decide p))= .bool b:=by
 congr 1
 cases b with
 | true=>exact decide_eq_true (h.2 rfl)
 | false=>exact decide_eq_false λhp=>by cases h.1 hp
abbrev Sm (c:Nat):Prop:=97<=c/\c<=122
abbrev Gr (c:Nat):Prop:=65<=c/\c<=90
abbrev Dg (c:Nat):Prop:=48<=c/\c<=57
abbrev Lt (c:Nat):Prop:=(97<=c/\c<=122)\/(65<=c/\c<=90)\/(48<=c/\c<=57)\/c=95
abbrev INPUT:ByteArray:=ByteArray.mk #[105,110,112,117,116]
abbrev OUTPUT:ByteArray:=ByteArray.mk #[111,117,116,112,117,116]
abbrev NOT:ByteArray:=ByteArray.mk #[110,111,116]
abbrev JJ (s:ByteArray):Prop:=s.toList=INPUT.toList\/s.toList=OUTPUT.toList\/s.toList=NOT.toList
def Lw (s:ByteArray):Prop:=∀ j,j<s.size->Lt (ch s j)
instance (s:ByteArray):Decidable (Lw s):=inferInstanceAs (Decidable (∀ j,j<s.size->_))
def mY (s:ByteArray):Prop:=∀ j,j<s.size->ch s j<=57
instance (s:ByteArray):Decidable (mY s):=inferInstanceAs (Decidable (∀ j,j<s.size->_))
def kind (s:ByteArray):Nat:=
 if s.size<1\/64<s.size then 0
 else if ¬ Lw s then 0
 else if Dg (ch s 0) then (if mY s then 3 else 0)
 else if Gr (ch s 0) then 2
 else if ch s 0=95 then 0
 else if s.toList=INPUT.toList then 5
 else if s.toList=OUTPUT.toList then 6
 else if s.toList=NOT.toList then 7
 else 1
theorem eu {s:ByteArray} (h:s.size<1\/64<s.size):kind s=0:=by unfold kind;rw [if_pos h]
theorem jK {s:ByteArray} {i:Nat} (hi:i<s.size) (h:¬ Lt (ch s i)):kind s=0:=by
 unfold kind;have:¬ Lw s:=λhw=>h (hw i hi)
 split
 .rfl
 .first | rfl | rw [if_pos this]
theorem aD {s:ByteArray} (h1:1<=s.size) (h2:s.size<=64) (hw:∀ j,j<s.size->Lt (ch s j)):kind s=if Dg (ch s 0) then (if mY s then 3 else 0) else if Gr (ch s 0) then 2 else if ch s 0=95 then 0
  else if s.toList=INPUT.toList then 5 else if s.toList=OUTPUT.toList then 6 else if s.toList=NOT.toList then 7 else 1:=by
 have:Lw s:=hw;unfold kind;rw [if_neg (by omega),if_neg (not_not_intro this)]
def aO (s:ByteArray) (low:Bool):Prop:=1<=s.size/\s.size<=64/\(if low then Sm (ch s 0) else Gr (ch s 0))/\∀ j,j<s.size->1<=j->Lt (ch s j)
instance (s:ByteArray) (b:Bool):Decidable (aO s b):=by unfold aO;exact inferInstance
def jl (s:ByteArray):Prop:=kind s=1\/kind s=3
instance (s:ByteArray):Decidable (jl s):=inferInstanceAs (Decidable (_\/_))
def l9 (s:ByteArray):Prop:=aO s true/\¬ JJ s
instance (s:ByteArray):Decidable (l9 s):=inferInstanceAs (Decidable (_/\_))
theorem dq {p q:Prop} [Decidable p] [Decidable q] (h:p↔q):(Value.bool (decide p))= .bool (decide q):=by
 congr 1
 exact decide_eq_decide.2 h
theorem dT {p:Prop} [Decidable p] (h:p):(Value.bool true)= .bool (decide p):=by rw [decide_eq_true h]
theorem dF {p:Prop} [Decidable p] (h:¬ p):(Value.bool false)= .bool (decide p):=by rw [decide_eq_false h]
end Go.QP
namespace Go.QP
open Go.Eng
theorem Dy {s:ByteArray} (h0:Lt (ch s 0)) (h:∀ j,j<s.size->1<=j->Lt (ch s j)):∀ j,j<s.size->Lt (ch s j):=by
 intro j hj
 rcases Nat.eq_zero_or_pos j with rfl | hp
 .exact h0
 .exact h j hj hp
theorem dV {s:ByteArray} (h:kind s≠0):1<=s.size/\s.size<=64/\∀ j,j<s.size->Lt (ch s j):=by
 by_cases h1:s.size<1\/64<s.size
 .exact absurd (eu h1) h
 .refine ⟨by omega,by omega,λj hj=>Decidable.of_not_not λhn=>h (jK hj hn)⟩
theorem bK (s:ByteArray):kind s=1↔l9 s:=by
 constructor
 .intro hk;obtain ⟨h1,h2,h3⟩:=dV (s:=s) (by rw [hk];decide);have h0:=h3 0 (by omega);rw [aD h1 h2 h3] at hk
  split at hk
  .split at hk <;> cases hk
  split at hk
  .cases hk
  split at hk
  .cases hk
  split at hk
  .cases hk
  split at hk
  .cases hk
  split at hk
  .cases hk
  rename_i a b c d e f;refine ⟨⟨h1,h2,?_,λj hj _=>h3 j hj⟩,λhr=>?_⟩
  .show Sm (ch s 0);omega
  .rcases hr with hr | hr | hr
   .exact d hr
   .exact e hr
   .exact f hr
 .rintro ⟨⟨h1,h2,h3,h4⟩,hr⟩;have h3:Sm (ch s 0):=h3;rw [aD h1 h2 (Dy (.inl h3) h4),if_neg (by omega),if_neg (by omega),if_neg (by omega),if_neg λh=>hr (.inl h),if_neg λh=>hr (.inr (.inl h)),if_neg λh=>hr (.inr (.inr h))]
theorem kX (s:ByteArray):kind s=2↔aO s false:=by
 constructor
 .intro hk;obtain ⟨h1,h2,h3⟩:=dV (s:=s) (by rw [hk];decide);rw [aD h1 h2 h3] at hk
  split at hk
  .split at hk <;> cases hk
  split at hk
  .rename_i hg;exact ⟨h1,h2,hg,λj hj _=>h3 j hj⟩
  split at hk
  .cases hk
  split at hk
  .cases hk
  split at hk
  .cases hk
  split at hk <;> cases hk
 .rintro ⟨h1,h2,h3,h4⟩;have h3:Gr (ch s 0):=h3;rw [aD h1 h2 (Dy (.inr (.inl h3)) h4),if_neg (by omega),if_pos h3]
end Go.QP
namespace Go.QP
open Go.Eng
structure Tk where
 k:Nat
 s:ByteArray
 i:Nat
 j:Nat
instance:Inhabited Tk:=⟨⟨0,ByteArray.empty,0,0⟩⟩
abbrev PX:Tk:=⟨0,ByteArray.empty,0,0⟩
def pz:List Nat->Bool->Nat->Nat
 | [],_,i=>i
 | c::l,true,i=>pz l (decide (c≠10)) (i+1)
 | c::l,false,i=>if c=37 then pz l true (i+1) else if c≠32/\c≠9/\c≠10/\c≠13 then i else pz l false (i+1)
def hx (c:Nat):Int:=if Dg c then (c:Int)-48 else if 97<=c/\c<=102 then (c:Int)-87 else -1
def je:List Nat->List Nat->Nat->List Nat × Nat × Bool
 | [],_,i=>([],i,false)
 | c::l,b,i=>
  if c=34 then (b,i+1,true)
  else if b.length=1024\/c<32\/126<c then ([],i,false)
  else if c=92 then
   match l with
   | []=>([],i+1,false)
   | d::l1=>
    if d=34\/d=92 then je l1 (b++[d]) (i+2)
    else if d=110 then je l1 (b++[10]) (i+2)
    else if d=116 then je l1 (b++[9]) (i+2)
    else if d=120 then
     match l1 with
     | []=>([],i+2,false)
     | e::l2=>
      if hx e<0 then ([],i+2,false)
      else
       match l2 with
       | []=>([],i+3,false)
       | f::l3=>if hx f<0 then ([],i+3,false) else je l3 (b++[((hx e) * 16+hx f).toNat]) (i+4)
    else ([],i+1,false)
  else je l (b++[c]) (i+1)
def M5 (c:Nat):Nat:=if c=40 then 8 else if c=41 then 9 else if c=44 then 10 else if c=46 then 11 else if c=47 then 12 else 0
def MO (num:Bool):Nat->List Nat->Nat
 | 0,_=>0
 | _,[]=>0
 | n+1,c::l=>if Go.QP.Lt c/\(num=true->c<=57) then 1+MO num n l else 0
def QT (l:List Nat) (i:Nat):Tk × Bool:=
 let s:=sN (l.take (MO (decide (Dg (l.headD 0))) 64 l))
 if kind s=0 then (PX,false) else (⟨kind s,if JJ s then ByteArray.empty else s,i,i+s.size⟩,true)
def P8 (l:List Nat) (i:Nat):Tk × Bool:=
 match l with
 | []=>(PX,false)
 | c::r=>
  if c=34 then (⟨4,sN (je r [] (i+1)).1,i,(je r [] (i+1)).2.1⟩,(je r [] (i+1)).2.2)
  else if M5 c≠0 then (⟨M5 c,ByteArray.empty,i,i+1⟩,true)
  else if c=58 then (if r.head?=some 45 then (⟨13,ByteArray.empty,i,i+2⟩,true) else (⟨13,ByteArray.empty,i,i+1⟩,false))
  else if c=33 then (if r.head?=some 61 then (⟨14,ByteArray.empty,i,i+2⟩,true) else (⟨14,ByteArray.empty,i,i+1⟩,false))
  else QT (c::r) i
abbrev Mu (k:Nat):Prop:=0<k/\k<8/\k≠4
def Mw:Nat->List Nat->Nat->Int->List Tk × Tk × Nat
 | 0,_,i,_=>([],PX,i)
 | n+1,l,i,joint=>
  if l=[] then ([],PX,i)
  else
   let r:=P8 l i
   if Mu r.1.k/\joint=(i:Int) then ([],PX,i)
   else if r.2=false then (if r.1.k=0 then ([],r.1,i) else ([],r.1,r.1.j))
   else
    let l1:=l.drop (r.1.j-i)
    let p:=pz l1 false r.1.j
    let q:=Mw n (l1.drop (p-r.1.j)) p (if Mu r.1.k then (r.1.j:Int) else -1)
    (r.1::q.1,q.2)
def AO (t:ByteArray):List Tk × Tk × Nat:=
 Mw (t.size+1) ((bl t).drop (pz (bl t) false 0)) (pz (bl t) false 0) (-1)
end Go.QP
namespace Go.QP
open Go.Eng
abbrev Tm:=Bool × ByteArray
abbrev nA:Tm:=(false,ByteArray.empty)
structure Qlit where
 kind:Int
 pred:ByteArray
 args:List Tm
 left:Tm
 right:Tm
abbrev Qy:Qlit:=⟨0,ByteArray.empty,[],nA,nA⟩
instance:Inhabited Qlit:=⟨Qy⟩
structure RS where
 q:List Qlit
 at_:Nat
 now:Qlit
def Hr (a k:Nat):Prop:=a=0\/a=4\/a=7\/(a=1/\k≠4)
instance (a k:Nat):Decidable (Hr a k):=inferInstanceAs (Decidable (_\/_))
end Go.QP
namespace Go.QP
open Go.Eng
abbrev bQ:ByteArray:=ByteArray.mk #[48,49,50,51,52,53,54,55,56,57,97,98,99,100,101,102]
def bG (x:Nat):List Nat:=if x=34\/x=92 then [92,x] else if x=10 then [92,110] else if x=9 then [92,116] else if 32<=x/\x<=126 then [x] else [92,120,ch bQ (x / 2 ^ 4),ch bQ (x % 16)]
theorem Bf (x:Nat):(bG x).length<=4:=by unfold bG;(repeat' split) <;> simp
def iI (l:List Nat):List Nat:=34::l.flatMap bG++[34]
theorem qY {l ys:List Nat} {i:Nat} (hy:ys=34::(l.take i).flatMap bG) (hi:i<l.length):ys++bG (el l i)=34::(l.take (i+1)).flatMap bG:=by
 rw [hy,List.take_succ_eq_append_getElem hi,List.flatMap_append,aF hi];simp
theorem j8 {i:Nat} (h:i<16):ch bQ i<128:=by
 have:∀ i,i<16->ch bQ i<128:=by decide +kernel
 exact this i h
theorem GG {x:Nat} (h:x=34\/x=92):bG x=[92,x]:=if_pos h
theorem kJ {x:Nat} (h:x=10):bG x=[92,110]:=by subst h;rfl
theorem kZ {x:Nat} (h:x=9):bG x=[92,116]:=by subst h;rfl
theorem kz {x:Nat} (h1:x≠34) (h2:x≠92) (h3:32<=x) (h4:x<=126):bG x=[x]:=by
 unfold bG;rw [if_neg (by omega),if_neg (by omega),if_neg (by omega),if_pos (by omega)]
theorem jQ {x:Nat} (h1:x≠34) (h2:x≠92) (h3:x≠10) (h4:x≠9) (h5:¬ (32<=x/\x<=126)):bG x=[92,120,ch bQ (x / 2 ^ 4),ch bQ (x % 16)]:=by
 unfold bG;rw [if_neg (by omega),if_neg h3,if_neg h4,if_neg h5]
theorem BU {l:List Nat} (h:∀ x ∈ l,x<256):bl (sN l)=l:=by
 unfold bl sN;rw [strOfNums_data];simp only [List.map_map]
 conv=>rhs;rw [← List.map_id l]
 refine List.map_congr_left λx hx=>?_;have:=h x hx;simp only [Function.comp,Int.toNat_natCast,id];rw [UInt8.toNat_ofNat'];exact Nat.mod_eq_of_lt this
theorem MV {s:ByteArray}:∀ x ∈ bl s,x<256:=by
 intro x hx;unfold bl at hx;obtain ⟨u,_,rfl⟩:=List.mem_map.1 hx;exact u.toNat_lt
theorem Et {x:Nat} (h:x<256):∀ y ∈ bG x,y<256:=by
 intro y hy;have h1:=j8 (i:=x / 2 ^ 4) (by omega);have h2:=j8 (i:=x % 16) (by omega);unfold bG at hy
 split at hy
 .simp only [List.mem_cons,List.not_mem_nil,or_false] at hy;omega
 split at hy
 .simp only [List.mem_cons,List.not_mem_nil,or_false] at hy;omega
 split at hy
 .simp only [List.mem_cons,List.not_mem_nil,or_false] at hy;omega
 split at hy
 .simp only [List.mem_cons,List.not_mem_nil,or_false] at hy;omega
 .simp only [List.mem_cons,List.not_mem_nil,or_false] at hy
  rcases hy with rfl | rfl | rfl | rfl
  .decide
  .decide
  .exact Nat.lt_trans h1 (by decide)
  .exact Nat.lt_trans h2 (by decide)
theorem sG (s:ByteArray):∀ x ∈ iI (bl s),x<256:=by
 intro x hx;unfold iI at hx;simp only [List.cons_append,List.mem_cons,List.mem_append,List.mem_flatMap,List.not_mem_nil,or_false] at hx
 rcases hx with rfl | ⟨y,hy,hx⟩ | rfl
 .decide
 .exact Et (MV y hy) x hx
 .decide
theorem BV {x:Nat} (hx:x<256) (a:ByteArray) (ha:bl a=[92,120]):bl (a++sN [ch bQ (x / 2 ^ 4)]++sN [ch bQ (x % 16)])=[92,120,ch bQ (x / 2 ^ 4),ch bQ (x % 16)]:=by
 have h1:=j8 (i:=x / 2 ^ 4) (by omega);have h2:=j8 (i:=x % 16) (by omega);rw [ef,ef,ha,BU (λy hy=>by rw [List.mem_singleton.1 hy];exact Nat.lt_trans h1 (by decide)),BU (λy hy=>by rw [List.mem_singleton.1 hy];exact Nat.lt_trans h2 (by decide))];rfl
section
variable {s:ByteArray} {ys:List Nat} {i m:Nat}
def QI (s:ByteArray) (i m:Nat) (ys:List Nat):Prop:=i<=s.size/\m<=1+4 * i/\ys=34::((bl s).take i).flatMap bG
theorem QI.step (h:QI s i m ys) (hi:i<s.size) {k:Nat} (hk:k<=4) {zs:List Nat} (hz:zs=ys++bG (el (bl s) i)):QI s (i+1) (m+k) zs:=by
 obtain ⟨h1,h2,h3⟩:=h;exact ⟨by omega,by omega,hz.trans (qY h3 (by rw [bN];exact hi))⟩
theorem QI.fin (h:QI s i m ys) (hi:¬ i<s.size):ys++[34]=iI (bl s):=by
 obtain ⟨h1,h2,h3⟩:=h;rw [h3,List.take_of_length_le (by rw [bN];omega)];rfl
end
theorem Hl (s:ByteArray) (i:Nat):el (bl s) i<256:=by
 by_cases h:i<(bl s).length
 .rw [aF h];exact MV _ (List.getElem_mem h)
 .unfold el;rw [List.getD_eq_getElem?_getD,List.getElem?_eq_none (by omega)];show (0:Nat)<256
  decide
theorem B6 {x y:Nat}:(ByteArray.mk #[92,120]++sN [x]++sN [y]).size<=4:=by rw [ByteArray.size_append,ByteArray.size_append,eH,eH];exact Nat.le_refl 4
end Go.QP
namespace Go.QP
open Go.Eng
end Go.QP
