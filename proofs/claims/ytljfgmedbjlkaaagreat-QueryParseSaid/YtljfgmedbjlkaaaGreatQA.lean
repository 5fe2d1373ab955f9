/- Plain law of the question's text: bytes, words, kinds. -/
import Derived.Test.YtljfgmedbjlkaaaGreatSNum
import Derived.Test.YtljfgmedbjlkaaaGreatV3
import Derived.Test.YtljfgmedbjlkaaaGreatV8
namespace Go.QP
open Go.Eng
abbrev Sm (c:Nat):Prop:=97≤c∧c≤122
abbrev Gr (c:Nat):Prop:=65≤c∧c≤90
abbrev Dg (c:Nat):Prop:=48≤c∧c≤57
/-- a byte of a word -/
abbrev Lt (c:Nat):Prop:=(97≤c∧c≤122)∨(65≤c∧c≤90)∨(48≤c∧c≤57)∨c=95
abbrev INPUT:ByteArray:=ByteArray.mk #[105,110,112,117,116]
abbrev OUTPUT:ByteArray:=ByteArray.mk #[111,117,116,112,117,116]
abbrev NOT:ByteArray:=ByteArray.mk #[110,111,116]
/-- a reserved word -/
abbrev Rsv (s:ByteArray):Prop:=s.toList=INPUT.toList∨s.toList=OUTPUT.toList∨s.toList=NOT.toList
/-- all bytes are bytes of a word -/
def AllW (s:ByteArray):Prop:=∀ j,j<s.size→Lt (ch s j)
instance (s:ByteArray):Decidable (AllW s):=inferInstanceAs (Decidable (∀ j,j<s.size→_))
/-- none is greater than a digit -/
def AllD (s:ByteArray):Prop:=∀ j,j<s.size→ch s j≤57
instance (s:ByteArray):Decidable (AllD s):=inferInstanceAs (Decidable (∀ j,j<s.size→_))
/-- the kind of a word; 0: it is none -/
def kind (s:ByteArray):Nat:=
 if s.size<1∨64<s.size then 0
 else if ¬ AllW s then 0
 else if Dg (ch s 0) then (if AllD s then 3 else 0)
 else if Gr (ch s 0) then 2
 else if ch s 0=95 then 0
 else if s.toList=INPUT.toList then 5
 else if s.toList=OUTPUT.toList then 6
 else if s.toList=NOT.toList then 7
 else 1
theorem kind_len {s:ByteArray} (h:s.size<1∨64<s.size):kind s=0:=by unfold kind;rw [if_pos h]
theorem kind_w {s:ByteArray} {i:Nat} (hi:i<s.size) (h:¬ Lt (ch s i)):kind s=0:=by
 unfold kind
 have:¬ AllW s:=fun hw=>h (hw i hi)
 split
 ·rfl
 ·first | rfl | rw [if_pos this]
theorem kind_of {s:ByteArray} (h1:1≤s.size) (h2:s.size≤64) (hw:∀ j,j<s.size→Lt (ch s j)):kind s=if Dg (ch s 0) then (if AllD s then 3 else 0) else if Gr (ch s 0) then 2 else if ch s 0=95 then 0
  else if s.toList=INPUT.toList then 5 else if s.toList=OUTPUT.toList then 6 else if s.toList=NOT.toList then 7 else 1:=by
 have:AllW s:=hw
 unfold kind
 rw [if_neg (by omega),if_neg (not_not_intro this)]
/-- a word of the document: small at its beginning, or great -/
def WordD (s:ByteArray) (low:Bool):Prop:=1≤s.size∧s.size≤64∧(if low then Sm (ch s 0) else Gr (ch s 0))∧∀ j,j<s.size→1≤j→Lt (ch s j)
instance (s:ByteArray) (b:Bool):Decidable (WordD s b):=by unfold WordD;exact inferInstance
/-- a constant that stands without quotes -/
def Bare (s:ByteArray):Prop:=kind s=1∨kind s=3
instance (s:ByteArray):Decidable (Bare s):=inferInstanceAs (Decidable (_∨_))
/-- a name of the document that is not reserved -/
def NameD (s:ByteArray):Prop:=WordD s true∧¬ Rsv s
instance (s:ByteArray):Decidable (NameD s):=inferInstanceAs (Decidable (_∧_))
theorem dq {p q:Prop} [Decidable p] [Decidable q] (h:p↔q):(Value.bool (decide p))= .bool (decide q):=by
 congr 1
 exact decide_eq_decide.2 h
theorem dT {p:Prop} [Decidable p] (h:p):(Value.bool true)= .bool (decide p):=by rw [decide_eq_true h]
theorem dF {p:Prop} [Decidable p] (h:¬ p):(Value.bool false)= .bool (decide p):=by rw [decide_eq_false h]
end Go.QP
namespace Go.QP
open Go.Eng
theorem kind_pos {s:ByteArray} (h:kind s≠0):1≤s.size∧s.size≤64∧∀ j,j<s.size→Lt (ch s j):=by
 by_cases h1:s.size<1∨64<s.size
 ·exact absurd (kind_len h1) h
 ·refine ⟨by omega,by omega,fun j hj=>Decidable.of_not_not fun hn=>h (kind_w hj hn)⟩
end Go.QP
namespace Go.QP
open Go.Eng
/-- a token -/
structure Tk where
 k:Nat
 s:ByteArray
 i:Nat
 j:Nat
instance:Inhabited Tk:=⟨⟨0,ByteArray.empty,0,0⟩⟩
abbrev Tk0:Tk:=⟨0,ByteArray.empty,0,0⟩
abbrev eK:En Tk:=⟨fun t=>[.int .i64 ((t.k:Nat):Int),.string t.s,.int .i64 ((t.i:Nat):Int),.int .i64 ((t.j:Nat):Int)],4,fun _=>rfl,by decide,fun _=>rfl⟩
/-- the place behind blanks and remarks -/
def blankP:List Nat→Bool→Nat→Nat
 | [],_,i=>i
 | c::l,true,i=>blankP l (decide (c≠10)) (i+1)
 | c::l,false,i=>if c=37 then blankP l true (i+1) else if c≠32∧c≠9∧c≠10∧c≠13 then i else blankP l false (i+1)
/-- what a digit of two says -/
def hx (c:Nat):Int:=if Dg c then (c:Int)-48 else if 97≤c∧c≤102 then (c:Int)-87 else -1
/-- a string from behind its first quote: its bytes, the place where it goes no further, whether it is whole -/
def quotedP:List Nat→List Nat→Nat→List Nat × Nat × Bool
 | [],_,i=>([],i,false)
 | c::l,b,i=>
  if c=34 then (b,i+1,true)
  else if b.length=1024∨c<32∨126<c then ([],i,false)
  else if c=92 then
   match l with
   | []=>([],i+1,false)
   | d::l1=>
    if d=34∨d=92 then quotedP l1 (b++[d]) (i+2)
    else if d=110 then quotedP l1 (b++[10]) (i+2)
    else if d=116 then quotedP l1 (b++[9]) (i+2)
    else if d=120 then
     match l1 with
     | []=>([],i+2,false)
     | e::l2=>
      if hx e<0 then ([],i+2,false)
      else
       match l2 with
       | []=>([],i+3,false)
       | f::l3=>if hx f<0 then ([],i+3,false) else quotedP l3 (b++[((hx e) * 16+hx f).toNat]) (i+4)
    else ([],i+1,false)
  else quotedP l (b++[c]) (i+1)
/-- behind the first digit's place -/
def firstP (l b:List Nat) (i:Nat):List Nat × Nat × Bool:=
 match l with
 | []=>([],i,false)
 | e::l2=>
  if hx e<0 then ([],i,false)
  else
   match l2 with
   | []=>([],i+1,false)
   | f::l3=>if hx f<0 then ([],i+1,false) else quotedP l3 (b++[((hx e) * 16+hx f).toNat]) (i+2)
theorem firstP_1 (e:Nat) (b:List Nat) (i:Nat):firstP [e] b i=if hx e<0 then ([],i,false) else ([],i+1,false):=rfl
theorem firstP_2 (e f:Nat) (l b:List Nat) (i:Nat):firstP (e::f::l) b i=if hx e<0 then ([],i,false) else if hx f<0 then ([],i+1,false) else quotedP l (b++[((hx e) * 16+hx f).toNat]) (i+2):=rfl
theorem firstP_n {e:Nat} {l b:List Nat} {i:Nat} (h:hx e<0):firstP (e::l) b i=([],i,false):=by
 show (if hx e<0 then _ else _)=_
 rw [if_pos h]
/-- behind a slash -/
def slashP (l b:List Nat) (i:Nat):List Nat × Nat × Bool:=
 match l with
 | []=>([],i,false)
 | d::l1=>
  if d=34∨d=92 then quotedP l1 (b++[d]) (i+1)
  else if d=110 then quotedP l1 (b++[10]) (i+1)
  else if d=116 then quotedP l1 (b++[9]) (i+1)
  else if d=120 then firstP l1 b (i+1)
  else ([],i,false)
theorem quotedP_nil (b:List Nat) (i:Nat):quotedP [] b i=([],i,false):=by rw [quotedP.eq_def]
theorem quotedP_cons (c:Nat) (l b:List Nat) (i:Nat):quotedP (c::l) b i =
  if c=34 then (b,i+1,true)
  else if b.length=1024∨c<32∨126<c then ([],i,false)
  else if c=92 then slashP l b (i+1)
  else quotedP l (b++[c]) (i+1):=by
 rw [quotedP.eq_def]
 rfl
/-- a sign of one byte, by its kind -/
def sign1 (c:Nat):Nat:=if c=40 then 8 else if c=41 then 9 else if c=44 then 10 else if c=46 then 11 else if c=47 then 12 else 0
/-- how many bytes a word has -/
def wordN (num:Bool):Nat→List Nat→Nat
 | 0,_=>0
 | _,[]=>0
 | n+1,c::l=>if Go.QP.Lt c∧(num=true→c≤57) then 1+wordN num n l else 0
/-- a word that begins there -/
def wordT (l:List Nat) (i:Nat):Tk × Bool:=
 let s:=sN (l.take (wordN (decide (Dg (l.headD 0))) 64 l))
 if kind s=0 then (Tk0,false) else (⟨kind s,if Rsv s then ByteArray.empty else s,i,i+s.size⟩,true)
/-- the token that begins there -/
def nextP (l:List Nat) (i:Nat):Tk × Bool:=
 match l with
 | []=>(Tk0,false)
 | c::r=>
  if c=34 then (⟨4,sN (quotedP r [] (i+1)).1,i,(quotedP r [] (i+1)).2.1⟩,(quotedP r [] (i+1)).2.2)
  else if sign1 c≠0 then (⟨sign1 c,ByteArray.empty,i,i+1⟩,true)
  else if c=58 then (if r.head?=some 45 then (⟨13,ByteArray.empty,i,i+2⟩,true) else (⟨13,ByteArray.empty,i,i+1⟩,false))
  else if c=33 then (if r.head?=some 61 then (⟨14,ByteArray.empty,i,i+2⟩,true) else (⟨14,ByteArray.empty,i,i+1⟩,false))
  else wordT (c::r) i
/-- is a kind a word's? -/
abbrev WordK (k:Nat):Prop:=0<k∧k<8∧k≠4
/-- the tokens from a place on, the open one, the place where it goes no further -/
def toksP:Nat→List Nat→Nat→Int→List Tk × Tk × Nat
 | 0,_,i,_=>([],Tk0,i)
 | n+1,l,i,joint=>
  if l=[] then ([],Tk0,i)
  else
   let r:=nextP l i
   if WordK r.1.k∧joint=(i:Int) then ([],Tk0,i)
   else if r.2=false then (if r.1.k=0 then ([],r.1,i) else ([],r.1,r.1.j))
   else
    let l1:=l.drop (r.1.j-i)
    let p:=blankP l1 false r.1.j
    let q:=toksP n (l1.drop (p-r.1.j)) p (if WordK r.1.k then (r.1.j:Int) else -1)
    (r.1::q.1,q.2)
/-- a text's tokens -/
def toksOf (t:ByteArray):List Tk × Tk × Nat:=
 toksP (t.size+1) ((bl t).drop (blankP (bl t) false 0)) (blankP (bl t) false 0) (-1)
end Go.QP
namespace Go.QP
open Go.Eng
abbrev Tm:=Bool × ByteArray
abbrev Tm0:Tm:=(false,ByteArray.empty)
/-- a literal -/
structure Qlit where
 kind:Int
 pred:ByteArray
 args:List Tm
 left:Tm
 right:Tm
abbrev Qlit0:Qlit:=⟨0,ByteArray.empty,[],Tm0,Tm0⟩
instance:Inhabited Qlit:=⟨Qlit0⟩
/-- a reader: the literals, what may come next, the literal under way -/
structure RS where
 q:List Qlit
 at_:Nat
 now:Qlit
abbrev RS0:RS:=⟨[],0,Qlit0⟩
/-- a token as a term -/
def termT (k:Nat) (s:ByteArray):Option Tm:=if k=2 then some (true,s) else if k=1∨k=3∨k=4 then some (false,s) else none
def doneS (r:RS):RS:=⟨r.q++[r.now],8,Qlit0⟩
/-- the literal ends here, if it can -/
def endsS (r:RS):RS:=if r.at_=2 then doneS { r with now:={ r.now with kind:=1 } } else if r.at_=3 then doneS r else r
/-- a token is taken -/
def takeS (r:RS) (k:Nat) (s:ByteArray):Option RS:=
 if r.at_=0 then
  if k=7 then some { r with at_:=1,now:={ r.now with kind:=2 } }
  else if k=1 then some { r with at_:=2,now:={ r.now with pred:=s } }
  else (termT k s).map fun x=>{ r with at_:=6,now:=⟨3,ByteArray.empty,[],x,Tm0⟩ }
 else if r.at_=1 then
  if k=1 then some { r with at_:=3,now:={ r.now with pred:=s } } else none
 else if r.at_=2∨r.at_=3 then
  if k=8 then some { r with at_:=4,now:={ r.now with kind:=if r.at_=2 then 1 else r.now.kind } }
  else if k=14∧r.at_=2 then some { r with at_:=7,now:=⟨3,ByteArray.empty,[],(false,r.now.pred),Tm0⟩ }
  else if k=10∧r.q.length+1<256 then some { endsS r with at_:=0 }
  else none
 else if r.at_=4 then
  (termT k s).map fun x=>{ r with at_:=5,now:={ r.now with args:=r.now.args++[x] } }
 else if r.at_=5 then
  if k=10∧r.now.args.length<16 then some { r with at_:=4 }
  else if k=9 then some (doneS r)
  else none
 else if r.at_=6 then
  if k=14 then some { r with at_:=7 } else none
 else if r.at_=7 then
  (termT k s).map fun x=>doneS { r with now:={ r.now with right:=x } }
 else
  if k=10∧r.q.length<256 then some { r with at_:=0 } else none
/-- tokens are taken one by one: the reader, or the token that can't stand there beside it -/
def takesS (r:RS):List Tk→RS × Option Tk
 | []=>(r,none)
 | t::l=>match takeS r t.k t.s with
  | some r1=>takesS r1 l
  | none=>(r,some t)
/-- may a name stand here, or a text? -/
def wantsS (a k:Nat):Prop:=a=0∨a=4∨a=7∨(a=1∧k≠4)
instance (a k:Nat):Decidable (wantsS a k):=inferInstanceAs (Decidable (_∨_))
/-- a question of a text: its literals and 0, or the offset -/
def parseS (t:ByteArray):Option (List Qlit) × Nat:=
 let x:=toksOf t
 let y:=takesS RS0 x.1
 match y.2 with
 | some t=>if (t.k=5∨t.k=6∨t.k=7)∧wantsS y.1.at_ 1 then (none,t.j) else (none,t.i)
 | none=>
  if (x.2.1.k=4∧¬ wantsS y.1.at_ 4)∨x.2.1.k=13∨(x.2.1.k=14∧y.1.at_≠2∧y.1.at_≠6) then (none,x.2.1.i)
  else if x.2.1.k≠0∨t.size≤x.2.2∨ch t x.2.2≠63∨(endsS y.1).at_≠8 then (none,x.2.2)
  else
   let p:=blankP ((bl t).drop (x.2.2+1)) false (x.2.2+1)
   if p<t.size then (none,p) else (some (endsS y.1).q,0)
end Go.QP
namespace Go.QP
open Go.Eng
theorem bl_sN {l:List Nat} (h:∀ x ∈ l,x<256):bl (sN l)=l:=by
 unfold bl sN
 rw [strOfNums_data]
 simp only [List.map_map]
 conv=>rhs;rw [← List.map_id l]
 refine List.map_congr_left fun x hx=>?_
 have:=h x hx
 simp only [Function.comp,Int.toNat_natCast,id]
 rw [UInt8.toNat_ofNat']
 exact Nat.mod_eq_of_lt this
section
variable {s:ByteArray} {ys:List Nat} {i m:Nat}
end
end Go.QP
namespace Go.QP
open Go.Eng
theorem sN_bl (s:ByteArray):sN (bl s)=s:=by
 apply ByteArray.ext
 apply Array.ext'
 unfold sN bl
 rw [strOfNums_data]
 simp only [List.map_map]
 conv=>rhs;rw [← List.map_id s.data.toList]
 refine List.map_congr_left fun x _=>?_
 simp [Function.comp]
theorem sN_nil:sN []=ByteArray.empty:=by
 apply ByteArray.ext;apply Array.ext';unfold sN;rw [strOfNums_data];rfl
theorem bl_ch {s:ByteArray} {i:Nat} (h:i<s.size):(bl s)[i]?=some (ch s i):=by
 have h':i<s.data.toList.length:=by simpa using h
 have h2:i<s.data.size:=h
 unfold bl ch
 rw [List.getElem?_map,List.getElem?_eq_getElem h',Option.map_some,ByteArray.get!]
 congr 2
 rw [Array.getElem_toList]
 exact (getElem!_pos s.data i h2).symm
end Go.QP
