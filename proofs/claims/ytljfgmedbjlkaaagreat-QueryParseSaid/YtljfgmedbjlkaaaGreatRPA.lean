/- Plain law: the document's reader of a rule's body, by its functions; and the program's way through the tokens, as one function. -/
import Derived.Test.YtljfgmedbjlkaaaGreatQV
namespace Go.QP
open Go.Eng
/-- what a reader's function comes to: it stops for good, or it stands behind what it has read -/
inductive Rs (α:Type) where
 | bad (p:Nat)
 | ok (x:α) (j:Nat)
/-- the bytes at a later place -/
abbrev dr (l:List Nat) (i j:Nat):List Nat:=l.drop (j-i)
abbrev hd (l:List Nat):Nat:=l.headD 0
/-- a name or a variable -/
def runR (l:List Nat) (i:Nat):Rs ByteArray:=if wordN false 65 l=65 then .bad (i+64) else .ok (sN (l.take (wordN false 65 l))) (i+wordN false 65 l)
/-- does a word begin there? -/
abbrev Wordly (l:List Nat):Prop:=Sm (hd l)∨Gr (hd l)∨Dg (hd l)
def digitsR (l:List Nat) (i:Nat):Rs ByteArray:=if wordN true 65 l=65 then .bad (i+64) else if Wordly (l.drop (wordN true 65 l)) then .bad (i+wordN true 65 l) else .ok (sN (l.take (wordN true 65 l))) (i+wordN true 65 l)
def textR (l:List Nat) (i:Nat):Rs ByteArray:=if (quotedP l.tail [] (i+1)).2.2=true then .ok (sN (quotedP l.tail [] (i+1)).1) (quotedP l.tail [] (i+1)).2.1 else .bad (quotedP l.tail [] (i+1)).2.1
def nameR (l:List Nat) (i:Nat):Rs ByteArray:=
 if ¬ Sm (hd l) then .bad i
 else match runR l i with
  | .bad p=>.bad p
  | .ok s j=>if Rsv s then .bad j else .ok s j
def termR (l:List Nat) (i:Nat):Rs Tm:=
 if Gr (hd l) then (match runR l i with | .bad p=>.bad p | .ok s j=>.ok (true,s) j)
 else if Dg (hd l) then (match digitsR l i with | .bad p=>.bad p | .ok s j=>.ok (false,s) j)
 else if hd l=34 then (match textR l i with | .bad p=>.bad p | .ok s j=>.ok (false,s) j)
 else (match nameR l i with | .bad p=>.bad p | .ok s j=>.ok (false,s) j)
/-- the place behind blanks -/
abbrev sk (l:List Nat) (i:Nat):Nat:=blankP l false i
/-- the terms in brackets, from behind a bracket or a comma on -/
def argsL:Nat→List Tm→List Nat→Nat→Rs (List Tm)
 | 0,_,_,i=>.bad i
 | n+1,acc,l,i=>
  let i1:=sk l i
  match termR (dr l i i1) i1 with
  | .bad p=>.bad p
  | .ok x i2=>
   let i3:=sk (dr l i i2) i2
   if hd (dr l i i3)=44 then (if acc.length+1=16 then .bad i3 else argsL n (acc++[x]) (dr l i (i3+1)) (i3+1))
   else if hd (dr l i i3)=41 then .ok (acc++[x]) (i3+1) else .bad i3
def argsR (l:List Nat) (i:Nat):Rs (List Tm):=
 let i1:=sk l i
 if hd (dr l i i1)=40 then argsL (l.length+1) [] (dr l i (i1+1)) (i1+1) else .ok [] i1
/-- behind the first term of an unlike literal -/
def unlikeR (x:Tm) (l:List Nat) (i:Nat):Rs Qlit:=
 let i1:=sk l i
 if hd (dr l i i1)≠33 then .bad i1
 else if hd (dr l i (i1+1))≠61 then .bad (i1+1)
 else
  let i2:=sk (dr l i (i1+2)) (i1+2)
  match termR (dr l i i2) i2 with
  | .bad p=>.bad p
  | .ok y j=>.ok ⟨3,ByteArray.empty,[],x,y⟩ j
def atomR (k:Int) (l:List Nat) (i:Nat):Rs Qlit:=
 match nameR l i with
 | .bad p=>.bad p
 | .ok s j=>match argsR (dr l i j) j with
  | .bad p=>.bad p
  | .ok xs j'=>.ok ⟨k,s,xs,Tm0,Tm0⟩ j'
def litR (l:List Nat) (i:Nat):Rs Qlit:=
 if ¬ Sm (hd l) then (match termR l i with | .bad p=>.bad p | .ok x j=>unlikeR x (dr l i j) j)
 else match runR l i with
  | .bad p=>.bad p
  | .ok s j=>
   if s.toList=NOT.toList then
    let i1:=sk (dr l i j) j
    if i1=j∧Wordly (dr l i i1) then .bad i1 else atomR 2 (dr l i i1) i1
   else if Rsv s then .bad j
   else
    let i1:=sk (dr l i j) j
    if hd (dr l i i1)=33 then unlikeR (false,s) (dr l i i1) i1
    else match argsR (dr l i i1) i1 with
     | .bad p=>.bad p
     | .ok xs j'=>.ok ⟨1,s,xs,Tm0,Tm0⟩ j'
/-- the literals, from ahead of one on -/
def bodyL:Nat→List Qlit→List Nat→Nat→Rs (List Qlit)
 | 0,_,_,i=>.bad i
 | n+1,acc,l,i=>
  let i1:=sk l i
  match litR (dr l i i1) i1 with
  | .bad p=>.bad p
  | .ok x i2=>
   let i3:=sk (dr l i i2) i2
   if hd (dr l i i3)=44 then (if acc.length+1=256 then .bad i3 else bodyL n (acc++[x]) (dr l i (i3+1)) (i3+1))
   else .ok (acc++[x]) i3
/-- a body with its dot: the literals, or the place where it stops -/
def ruleR (l:List Nat) (i:Nat):Rs (List Qlit):=
 match bodyL (l.length+1) [] l i with
 | .bad p=>.bad p
 | .ok q j=>
  if hd (dr l i j)=46 then
   let p:=sk (dr l i (j+1)) (j+1)
   if p<i+l.length then .bad p else .ok q p
  else .bad j
/-- how the program's way ends: at a place between tokens, within one, or ahead of a byte that a word can't go on with -/
inductive Pw where
 | clean (r:RS) (p c:Nat)
 | dirty (p:Nat)
 | word (p:Nat)
def Pw.pos:Pw→Nat
 | .clean _ p _=>p
 | .dirty p=>p
 | .word p=>p
/-- the program's way from a place on, at which no blank stands -/
def PR:Nat→RS→List Nat→Nat→Int→Pw
 | 0,r,l,i,_=>.clean r i (hd l)
 | n+1,r,l,i,jt=>
  if l=[] then .clean r i (hd l)
  else if jt=(i:Int)∧Go.QP.Lt (hd l) then .word i
  else
   let x:=nextP l i
   if x.2=false then
    if x.1.k=0 then .clean r i (hd l)
    else if x.1.k=4 then (if wantsS r.at_ 4 then .dirty x.1.j else .clean r i (hd l))
    else if x.1.k=14 then (if r.at_=2∨r.at_=6 then .dirty x.1.j else .clean r i (hd l))
    else .clean r i (hd l)
   else match takeS r x.1.k x.1.s with
    | none=>if (x.1.k=5∨x.1.k=6∨x.1.k=7)∧wantsS r.at_ 1 then .dirty x.1.j else .clean r i (hd l)
    | some r'=>
     let p:=sk (dr l i x.1.j) x.1.j
     PR n r' (dr l i p) p (if WordK x.1.k then (x.1.j:Int) else -1)
end Go.QP
