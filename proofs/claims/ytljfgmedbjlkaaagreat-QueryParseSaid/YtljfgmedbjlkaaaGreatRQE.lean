/- What the two readings of a text tell; a list whose content does not matter. -/
import Derived.Test.YtljfgmedbjlkaaaGreatRQD
import Derived.Test.YtljfgmedbjlkaaaGreatQZ
import Derived.Test.YtljfgmedbjlkaaaGreatQA
import Derived.Test.YtljfgmedbjlkaaaGreatV3
import Derived.Test.YtljfgmedbjlkaaaGreatHkC
import Derived.Test.YtljfgmedbjlkaaaGreatProg
namespace Go.Eng
open Go.RowKit
theorem x_neqBB {P:Program} {n:Nat} {σ:Nat→Value} {w:World} {ty t t':TypeId} {x y:Operand} {a b:Bool} (hT:P.underlying t=some .bool) (hx:ev n σ x= .bool a) (hy:ev n σ y= .bool b):Ex P (ev n σ) w (.binOp .neq t x y t') ty (.bool (decide (a≠b))):=by
 have:=x_neqB (P:=P) (n:=n) (σ:=σ) (w:=w) (ty:=ty) (t':=t') (p:=a=true) (q:=b=true) hT (by rw [hx];cases a <;> rfl) (by rw [hy];cases b <;> rfl)
 cases a <;> cases b <;> exact this
theorem el_set_ne {α:Type} [Inhabited α] {xs:List α} {i j:Nat} {u:α} (h:j≠i):el (xs.set i u) j=el xs j:=by
 unfold el
 rw [List.getD_eq_getElem?_getD,List.getD_eq_getElem?_getD,List.getElem?_set_ne (Ne.symm h)]
/-- a list of one's own, whatever it holds -/
def cX {α:Type} (T:TypeId) (E:En α) (a:Option Addr) (m c:Nat):Ch:=⟨footQ a c,fun h=>∃ xs:List α,OwnQ h T E.k a m c (flat E.enc xs),fun ⟨xs,hs⟩ hk=>⟨xs,hs.kept hk⟩⟩
section
variable {P:Program} {n:Nat} {σ:Nat→Value} {w w0:World} {ty t t':TypeId} {x y:Operand} {S:Nat→Prop} {L:List Ch} {K:Value→World→Prop} {α:Type} {E:En α} {a:Option Addr} {m c:Nat}
theorem cX_sr {T:TypeId} {h:Array Obj} (hs:(cX T E a m c).says h):∃ xs,Srm E h a m c xs:=hs.elim fun xs ho=>⟨xs,ho.src⟩
theorem OwnQ_len {T:TypeId} {k:Nat} {h:Array Obj} {cs:List Value} (ho:OwnQ h T k a m c cs):m≤maxLen:=by
 rcases ho.2 with ⟨h1,_⟩ | ⟨_,_,_,_,_,h1,h2,_⟩
 ·omega
 ·omega
theorem cX_len {T:TypeId} {h:Array Obj} (hs:(cX T E a m c).says h):m≤maxLen:=hs.elim fun _ ho=>OwnQ_len ho
theorem cQ_len {T:TypeId} {h:Array Obj} {xs:List α} (hs:(cQ T E a m c xs).says h):m≤maxLen:=OwnQ_len hs
theorem EsoX [Inhabited α] {f:Nat→Ch} {N q:Nat} {T:TypeId} {j:Nat} {v:Value} (H:Hp S w0 w L) (i:Nat) (u:α) (hs:SZ P t E.k) (hx:ev n σ x= .pointer (some ⟨ab a,ao a+j * E.k,none⟩)) (hi:L[i]?=some (cF N f)) (hq:q<N) (hf:f q=cX T E a m c) (hy:ev n σ y=v) (hu:v.cells.toList=E.enc u) (hj:j<m)
  (k:∀ w',Hp S w0 w' L→K undef w'):Eff P (ev n σ) w (.store t x y) ty K:=by
 have hX:=(H.at i hi).1 q hq
 rw [hf] at hX
 obtain ⟨xs,ho⟩:=hX
 have hc:(cF N (ins f q (cQ T E a m c xs))).says w.heap∧∀ b,(cF N (ins f q (cQ T E a m c xs))).foot b→(cF N f).foot b:=by
  have hfoot:∀ p b,(ins f q (cQ T E a m c xs) p).foot b→(f p).foot b:=fun p b hb=>by
   by_cases e:p=q
   ·subst e;rw [ins_here] at hb;rw [hf];exact hb
   ·rw [ins_there e] at hb;exact hb
  refine ⟨⟨fun p hp=>?_,fun p r hp hr hpr b hb hb'=>(H.at i hi).2 p r hp hr hpr b (hfoot p b hb) (hfoot r b hb')⟩,fun b ⟨p,hp,hb⟩=>⟨p,hp,hfoot p b hb⟩⟩
  by_cases e:p=q
  ·subst e;rw [ins_here];exact ho
  ·rw [ins_there e];exact (H.at i hi).1 p hp
 have H1:=H.conv i hi (d:=cF N (ins f q (cQ T E a m c xs))) (fun _=>hc.1) hc.2
 have hlt:i<L.length:=by
  rcases Nat.lt_or_ge i L.length with h | h
  ·exact h
  ·rw [List.getElem?_eq_none h] at hi;cases hi
 refine EsoQF H1 i u hs hx (by rw [List.getElem?_set_self hlt]) hq ins_here hy hu hj fun w' H2=>k w' ?_
 rw [List.set_set] at H2
 have hi2:(L.set i (cF N (ins (ins f q (cQ T E a m c xs)) q (cQ T E a m c (xs.set j u)))))[i]?=some (cF N (ins (ins f q (cQ T E a m c xs)) q (cQ T E a m c (xs.set j u)))):=List.getElem?_set_self hlt
 have H3:=H2.conv i hi2 (d:=cF N f) (fun hs=>?_) fun b ⟨p,hp,hb⟩=>⟨p,hp,?_⟩
 ·rw [List.set_set] at H3
  have e:L.set i (cF N f)=L:=by
   apply List.ext_getElem?
   intro z
   by_cases hz:z=i
   ·subst hz;rw [List.getElem?_set_self hlt,hi]
   ·rw [List.getElem?_set_ne (Ne.symm hz)]
  rwa [e] at H3
 ·have hfoot:∀ p b,(f p).foot b→(ins (ins f q (cQ T E a m c xs)) q (cQ T E a m c (xs.set j u)) p).foot b:=fun p b hb=>by
   by_cases e:p=q
   ·subst e;rw [ins_here];rw [hf] at hb;exact hb
   ·rw [ins_there e,ins_there e];exact hb
  refine ⟨fun p hp=>?_,fun p r hp hr hpr b hb hb'=>hs.2 p r hp hr hpr b (hfoot p b hb) (hfoot r b hb')⟩
  by_cases e:p=q
  ·subst e
   have:=hs.1 p hp
   rw [ins_here] at this
   rw [hf]
   exact ⟨_,this⟩
  ·have:=hs.1 p hp
   rw [ins_there e,ins_there e] at this
   exact this
 ·by_cases e:p=q
  ·subst e;rw [ins_here];rw [hf] at hb;exact hb
  ·rw [ins_there e,ins_there e];exact hb
end
end Go.Eng
namespace Go.QP
open Go.Eng
/-- what is told of a text -/
def PU (t:ByteArray) (ok:Bool) (n:Nat) (q:List Qlit):Prop:=(ok=true∧n=0∧parseS t=(some q,0))∨(ok=false∧q=[]∧parseS t=(none,n))
theorem PU.same {t:ByteArray} {ok ok':Bool} {n n':Nat} {q q':List Qlit} (h:PU t ok n q) (h':PU t ok' n' q'):ok'=ok∧n'=n∧q'=q:=by
 rcases h with ⟨rfl,rfl,h⟩ | ⟨rfl,rfl,h⟩ <;> rcases h' with ⟨rfl,rfl,h'⟩ | ⟨rfl,rfl,h'⟩ <;> rw [h] at h'
 ·injection h' with h1 _;injection h1 with h1;exact ⟨rfl,rfl,h1.symm⟩
 ·cases h'
 ·cases h'
 ·injection h' with _ h1;exact ⟨rfl,h1.symm,rfl⟩
end Go.QP
namespace Go.Proofs.YtljfgmedbjlkaaaGreat
open Go.RowKit Go.Eng Go.QP
theorem RefU (t:ByteArray) (w0:World) (hs:t.size≤1200):Calls Tryz.prog 7 #[.string t] w0 fun e w'=>∃ (ok:Bool) (n:Nat) (rows:List Rw) (aq:Option Addr) (cq:Nat),e= .returned (.tuple #[.slice aq rows.length cq,.int .i64 ((n:Nat):Int),.bool ok])∧PU t ok n (rows.map (fun z:Rw=>z.1))∧Hp No w0 w' [cQ 37 eL aq rows.length cq rows,cF rows.length fun k=>pL (el rows k)]:=
 (RefParse7 t w0 hs).mono fun e w' ⟨ok,n,rows,aq,cq,he,h,H⟩=>⟨ok,n,rows,aq,cq,he,by
  rw [ref_parse] at h
  rcases h with ⟨h1,h2,h3⟩ | ⟨h1,h2,h3⟩
  ·exact .inl ⟨h1,h2,h3⟩
  ·exact .inr ⟨h1,by rw [h2];rfl,h3⟩,H⟩
theorem ParU (t:ByteArray) (w0:World) (hs:t.size≤1200):Calls Tryz.prog 8 #[.string t] w0 fun e w'=>∃ (n k:Nat) (rows:List Rw) (aq:Option Addr) (cq:Nat),e= .returned (.tuple #[.slice aq rows.length cq,.int .i64 ((n:Nat):Int),.int .i64 ((k:Nat):Int)])∧(PU t (decide (k=0)) n (rows.map (fun z:Rw=>z.1))∧(k=0∨k=11))∧Hp No w0 w' [cQ 37 eL aq rows.length cq rows,cF rows.length fun k=>pL (el rows k)]:=
 (Parse8 t w0 (by omega)).mono fun e w' h=>by
  rcases h with ⟨a,c,rows,he,h1,H⟩ | ⟨n,he,h1,x⟩
  ·exact ⟨0,0,rows,a,c,he,⟨.inl ⟨rfl,rfl,h1⟩,.inl rfl⟩,H⟩
  ·exact ⟨n,11,[],none,0,he,⟨.inr ⟨rfl,rfl,h1⟩,.inr rfl⟩,((((Hp.start No w0).ext x).fnil (fun k=>pL (el ([]:List Rw) k))).nilQ 37 eL)⟩
/-- a row's terms, whatever they are -/
def pX (x:Rw):Ch:=cX 35 eT x.2.1 x.1.args.length x.2.2
end Go.Proofs.YtljfgmedbjlkaaaGreat
namespace Go.Proofs.YtljfgmedbjlkaaaGreat
open Go.RowKit Go.Eng Go.QP
theorem T.cf6:CF Tryz.prog 6:=fun _ _=>by kernel_rfl
theorem T.cf7:CF Tryz.prog 7:=fun _ _=>by kernel_rfl
theorem T.cf8:CF Tryz.prog 8:=fun _ _=>by kernel_rfl
theorem T.cf9:CF Tryz.prog 9:=fun _ _=>by kernel_rfl
theorem law3 (t:ByteArray) (w0:World) :
  Calls Tryz.prog 3 #[.string t] w0 fun e w'=>e= .returned (.bool true)∧Ext w0 w':=by
 refine enter Tryz.func3 rfl 95 Tryz.ntmps3 rfl<|?_
 refine sr fun Q1 k2=>qt asg<|nl<|k2 _ _<|seqK fun Q3 kn4 kr5 ke6=>?_
 refine sr fun Q7 k8=>qt mv<|qt (x_lenS rfl Tryz.underlying9 rfl)<|qt (x_gtrN (b:=1200) rfl rfl)<|nl<|k8 _ _<|cnd (p:=1200<t.size) rfl (fun h9=>?_) (fun h9=>?_)
 ·refine sr fun Q10 k11=>?_
  refine cl T.cf6 (known6 _) rfl fun _ w13 ⟨er,X12⟩=>⟨_,er,?_⟩
  have H14:=(Hp.start No w0).ext X12
  refine qt asg<|nl<|k11 _ _<|ret<|kr5 _ _<|leave1 (P:=Tryz.prog) (fn:=Tryz.f3) (t:=2) (v:=.bool true) rfl rfl<|?_
  exact ⟨rfl,H14.x⟩
 ·refine skip<|kn4 _ _<|?_
  refine sr fun Q15 k16=>qt mv<|?_
  refine cl T.cf7 (RefU t _ (by omega)) rfl fun _ w24 ⟨ok17,n18,rows19,aq20,cq21,er,hpu22,K23⟩=>⟨_,er,?_⟩
  have H25:=(Hp.start No w0).app' K23
  refine qt mv<|qt (x_extract rfl rfl)<|qt (x_extract rfl rfl)<|qt (x_extract rfl rfl)<|qt asg<|qt asg<|qt asg<|nl<|k16 _ _<|?_
  refine sr fun Q26 k27=>qt mv<|?_
  refine cl T.cf8 (ParU t _ (by omega)) rfl fun _ w36 ⟨n28,k29,rows30,aq31,cq32,er,⟨hpu33,hk34⟩,K35⟩=>⟨_,er,?_⟩
  have H37:=H25.app' K35
  have hn:=(PU.same hpu22 hpu33).2.1
  have hok:=(PU.same hpu22 hpu33).1
  have hra:=(PU.same hpu22 hpu33).2.2
  have hk11:¬ ok17=true→k29=11:=fun h=>hk34.resolve_left (fun h0=>h (by rw [← hok,h0];rfl))
  refine qt mv<|qt (x_extract rfl rfl)<|qt (x_extract rfl rfl)<|qt (x_extract rfl rfl)<|qt asg<|qt asg<|qt asg<|nl<|k27 _ _<|?_
  refine sr fun Q38 k39=>qt mv<|?_
  refine cl T.cf8 (ParU t _ (by omega)) rfl fun _ w48 ⟨n40,k41,rows42,aq43,cq44,er,⟨hpu45,hk46⟩,K47⟩=>⟨_,er,?_⟩
  have H49:=H37.app' K47
  have hrb:=(PU.same hpu22 hpu45).2.2
  refine qt mv<|qt (x_extract rfl rfl)<|qt (x_extract rfl rfl)<|qt (x_extract rfl rfl)<|qt asg<|qt asg<|qt asg<|nl<|k39 _ _<|seqK fun Q50 kn51 kr52 ke53=>?_
  refine sr fun Q54 k55=>qt mv<|qt mv<|qt (x_neqN rfl rfl)<|st_if (p:=n28≠n18) (x_move rfl) (fun h56=>?_) (fun h56=>?_)
  ·exact absurd h56 (not_not_intro (by omega))
  ·refine st_gq 3 39 rfl rfl (by decide)<|qt mv<|st_gq 3 39 rfl rfl (by decide)<|qt (x_eqlN (b:=0) rfl rfl)<|st_gq 3 39 rfl rfl (by decide)<|qt mv<|st_gq 3 39 rfl rfl (by decide)<|qt (x_neqBB (a:=decide (k29=0)) (b:=ok17) Tryz.underlying4 rfl rfl)<|qt (pkF rfl)<|st_if (p:=decide (k29=0)≠ok17) (x_move rfl) (fun h57=>?_) (fun h57=>?_)
   ·exact absurd h57 (not_not_intro hok)
   ·refine st_gq 9 45 rfl rfl (by decide)<|qt (mvB rfl)<|st_gq 9 45 rfl rfl (by decide)<|qt (x_notP rfl)<|st_gq 9 45 rfl rfl (by decide)<|st_if (p:=¬ (ok17=true)) (x_move rfl) (fun h58=>?_) (fun h58=>?_)
    ·refine st_gq 12 48 rfl rfl (by decide)<|qt mv<|st_gq 12 48 rfl rfl (by decide)<|qt (x_neqN (b:=11) rfl rfl)<|st_gq 9 45 rfl rfl (by decide)<|qt (pkT rfl)<|qt (pkF rfl)<|st_if (p:=k29≠11) (x_move rfl) (fun h59=>?_) (fun h59=>?_)
     ·exact absurd h59 (not_not_intro (hk11 (by assumption)))
     ·refine st_gq 17 53 rfl rfl (by decide)<|qt mv<|st_gq 17 53 rfl rfl (by decide)<|qt mv<|st_gq 17 53 rfl rfl (by decide)<|?_
      refine cl T.cf9 (Same_yes (Lits.own H49 2 3 rfl rfl) (Lits.own H49 4 5 rfl rfl) hra) rfl fun _ w61 ⟨er,X60⟩=>⟨_,er,?_⟩
      have H62:=H49.ext X60
      refine st_gq 17 53 rfl rfl (by decide)<|qt (x_notB (b:=true) rfl)<|qt (pkF rfl)<|nl<|k55 _ _<|cndF rfl<|skip<|kn51 _ _<|seqK fun Q63 kn64 kr65 ke66=>?_
      refine sr fun Q67 k68=>qt asg<|nl<|k68 _ _<|blockK fun Q69 kn70 kr71 kx72 kb73=>?_
      refine loopK (α:=Nat × (List Rw)) (fun x=>[(3,.slice aq20 rows19.length cq21),(6,.slice aq31 rows30.length cq32),(9,.slice aq43 rows42.length cq44),(12,.int .i64 ((x.1:Nat):Int))]) (fun x w74=>Hp No w0 w74 [cQ 37 eL aq31 rows30.length cq32 x.2,cF rows30.length fun k=>pX (el rows30 k),cQ 37 eL aq43 rows42.length cq44 rows42,cF rows42.length fun k=>pL (el rows42 k),cQ 37 eL aq20 rows19.length cq21 rows19,cF rows19.length fun k=>pL (el rows19 k)]∧x.1≤rows30.length∧x.2.length=rows30.length∧∀ k,x.1≤k→k<rows30.length→el x.2 k=el rows30 k) (fun x=>rows30.length-x.1) (0,rows30) ⟨rfl,rfl,rfl,rfl,trivial⟩ ?_ ?_
      ·refine ⟨((H62.pick [2,3,0,1,4,5] (by decide)).fconv 1 rfl (g:=fun k=>pX (el rows30 k)) (fun j hj h=>⟨_,h⟩) (fun j hj b hb=>hb)),?_⟩
       try dsimp only
       exact ⟨Nat.zero_le _,rfl,fun _ _ _=>rfl⟩
      ·rintro τ75 ⟨i,rs⟩ w76 ⟨hx77,⟨hi,hrl,hrs⟩⟩
       try dsimp only at hi hrl hrs
       have hz78:=hx77.le
       intro Q79 kn80 kr81 ke82
       dsimp only at hx77 ⊢
       have hn2:=cQ_len (hx77.at 0 rfl)
       have hmx:maxLen≤9223372036854775807:=by decide
       refine seqK fun Q83 kn84 kr85 ke86=>?_
       refine sr fun Q87 k88=>qt mv<|qt mv<|qt (x_lenSl rfl Tryz.underlying23 rfl)<|qt (x_lssN rfl rfl)<|nl<|k88 _ _<|cnd (p:=i<rows30.length) rfl (fun h89=>?_) (fun h89=>?_)
       ·refine skip<|kn84 _ _<|seqK fun Q90 kn91 kr92 ke93=>blockK fun Q94 kn95 kr96 kx97 kb98=>seqK fun Q99 kn100 kr101 ke102=>?_
        refine sr fun Q103 k104=>qt asg<|nl<|k104 _ _<|blockK fun Q105 kn106 kr107 kx108 kb109=>?_
        refine loopK (α:=Nat) (fun x=>[(3,.slice aq20 rows19.length cq21),(6,.slice aq31 rows30.length cq32),(9,.slice aq43 rows42.length cq44),(12,.int .i64 ((i:Nat):Int)),(13,.int .i64 ((x:Nat):Int))]) (fun x w110=>Hp No w0 w110 [cQ 37 eL aq31 rows30.length cq32 rs,cF rows30.length fun x=>pX (el rows30 x),cQ 37 eL aq43 rows42.length cq44 rows42,cF rows42.length fun x=>pL (el rows42 x),cQ 37 eL aq20 rows19.length cq21 rows19,cF rows19.length fun x=>pL (el rows19 x)]∧x≤(el rs i).1.args.length) (fun x=>(el rs i).1.args.length-x) (0) ⟨rfl,rfl,rfl,rfl,rfl,trivial⟩ ?_ ?_
        ·refine ⟨(hx77.pick [0,1,2,3,4,5] (by decide)),?_⟩
         try dsimp only
         exact Nat.zero_le _
        ·rintro τ111 k w112 ⟨hx113,hk⟩
         try dsimp only at hk
         have hz114:=hx113.le
         intro Q115 kn116 kr117 ke118
         have he:=hrs i (Nat.le_refl _) (by omega)
         have hal:(el rs i).1.args.length≤maxLen:=by rw [he];exact cX_len ((hx113.at 1 rfl).1 i (by omega))
         refine seqK fun Q119 kn120 kr121 ke122=>?_
         refine sr fun Q123 k124=>qt mv<|qt mv<|qt mv<|qt (x_index' T.sl23 rfl ((hx113.srQ 0 rfl).addr (by omega)) rfl (by omega))<|qt (x_field (o:=(ao aq31)+i * 7) T.fa37_1 rfl)<|qt (x_field (o:=(ao aq31)+i * 7+1) T.fa32_1 rfl)<|qt (x_load1 T.na30 rfl (((hx113.srQ 0 rfl).cell (i:=i) (by omega)).fld 2 rfl))<|qt (x_lenSl rfl Tryz.underlying30 rfl)<|qt (x_lssN rfl rfl)<|nl<|k124 _ _<|cnd (p:=k<((el rs i).1.args.length)) rfl (fun h125=>?_) (fun h125=>?_)
         ·refine skip<|kn120 _ _<|seqK fun Q126 kn127 kr128 ke129=>blockK fun Q130 kn131 kr132 kx133 kb134=>region<|qt mv<|qt mv<|qt (x_index' T.sl23 rfl ((hx113.srQ 0 rfl).addr (by omega)) rfl (by omega))<|qt (x_field (o:=(ao aq31)+i * 7) T.fa37_1 rfl)<|qt (x_field (o:=(ao aq31)+i * 7+1) T.fa32_1 rfl)<|qt (x_load1 T.na30 rfl (((hx113.srQ 0 rfl).cell (i:=i) (by omega)).fld 2 rfl))<|qt mv<|qt (v:=.agg #[.bool false,.string (ByteArray.mk #[103,111,110,101])]) (x_build (fun _=>by kernel_rfl))<|?_
          have hX:(cX (α:=Tm) 35 eT (el rs i).2.1 (el rs i).1.args.length (el rs i).2.2).says w112.heap:=by rw [he];exact (hx113.at 1 rfl).1 i (by omega)
          obtain ⟨xs84,hsr84⟩:=cX_sr hX
          refine qt (x_index' T.sl30 rfl (hsr84.addr (by omega)) rfl (by omega))<|?_
          refine st_s<|EsoX (α:=Tm) (E:=eT) (q:=i) (j:=k) hx113 1 (false,(ByteArray.mk #[103,111,110,101])) T.sz35 rfl rfl (by omega) (by show pX (el rows30 i)=_;rw [← he];rfl) rfl rfl (by omega) fun w135 H136=>nl<|kn131 _ _<|kn127 _ _<|region<|qt mv<|qt (addN (b:=1) rfl rfl)<|qt asg<|nl<|?_
          refine kn116 _ ((k+1)) _ ⟨rfl,rfl,rfl,rfl,rfl,trivial⟩ ⟨(H136.pick [0,1,2,3,4,5] (by decide)),?_⟩ ?_
          ·try dsimp only
           exact (by omega)
          ·(try dsimp only);omega
         ·refine exit<|ke122 _ _ _<|ke118 _ _ _<|kb109 _ _<|kn100 _ _<|region<|qt mv<|qt mv<|qt (v:=.agg #[.int .i64 ((0:Nat):Int),.string ByteArray.empty,.slice none 0 0,.bool false,.string ByteArray.empty,.bool false,.string ByteArray.empty]) (x_build (fun _=>by kernel_rfl))<|qt (x_index' T.sl23 rfl ((hx113.srQ 0 rfl).addr (by omega)) rfl (by omega))<|?_
          refine st_s<|EsoQ (j:=i) hx113 0 (⟨0,ByteArray.empty,[],Tm0,Tm0⟩,(none,0)) T.sz37 rfl rfl rfl rfl (by omega) fun w137 H138=>nl<|kn95 _ _<|kn91 _ _<|region<|qt mv<|qt (addN (b:=1) rfl rfl)<|qt asg<|nl<|?_
          refine kn80 _ ((i+1),(rs.set i (⟨0,ByteArray.empty,[],Tm0,Tm0⟩,(none,0)))) _ ⟨rfl,rfl,rfl,rfl,trivial⟩ ⟨(H138.pick [0,1,2,3,4,5] (by decide)),?_⟩ ?_
          ·try dsimp only
           exact ⟨by omega,by rw [List.length_set];exact hrl,fun j hj hj2=>by rw [el_set_ne (by omega)];exact hrs j (by omega) hj2⟩
          ·(try dsimp only);omega
       ·refine exit<|ke86 _ _ _<|ke82 _ _ _<|kb73 _ _<|kn64 _ _<|?_
        refine sr fun Q139 k140=>qt mv<|qt mv<|?_
        refine cl T.cf9 (Same_yes (Lits.own hx77 2 3 rfl rfl) (Lits.own hx77 4 5 rfl rfl) hrb) rfl fun _ w142 ⟨er,X141⟩=>⟨_,er,?_⟩
        have H143:=hx77.ext X141
        refine qt mv<|st_gq 3 92 rfl rfl (by decide)<|?_
        refine cl T.cf6 (known6 _) rfl fun _ w145 ⟨er,X144⟩=>⟨_,er,?_⟩
        have H146:=H143.ext X144
        refine qt (pkT rfl)<|qt asg<|nl<|k140 _ _<|ret<|leave1 (P:=Tryz.prog) (fn:=Tryz.f3) (t:=2) (v:=.bool true) rfl rfl<|?_
        exact ⟨rfl,H146.x⟩
    ·refine st_gn 12 48 rfl rfl (by decide) rfl<|st_gn 12 48 rfl rfl (by decide) rfl<|st_gq 9 45 rfl rfl (by decide)<|qt (pkF rfl)<|qt (pkF rfl)<|qt mv<|st_gq 17 53 rfl rfl (by decide)<|qt mv<|st_gq 17 53 rfl rfl (by decide)<|qt mv<|st_gq 17 53 rfl rfl (by decide)<|?_
     refine cl T.cf9 (Same_yes (Lits.own H49 2 3 rfl rfl) (Lits.own H49 4 5 rfl rfl) hra) rfl fun _ w148 ⟨er,X147⟩=>⟨_,er,?_⟩
     have H149:=H49.ext X147
     refine st_gq 17 53 rfl rfl (by decide)<|qt (x_notB (b:=true) rfl)<|qt (pkF rfl)<|nl<|k55 _ _<|cndF rfl<|skip<|kn51 _ _<|seqK fun Q150 kn151 kr152 ke153=>?_
     refine sr fun Q154 k155=>qt asg<|nl<|k155 _ _<|blockK fun Q156 kn157 kr158 kx159 kb160=>?_
     refine loopK (α:=Nat × (List Rw)) (fun x=>[(3,.slice aq20 rows19.length cq21),(6,.slice aq31 rows30.length cq32),(9,.slice aq43 rows42.length cq44),(12,.int .i64 ((x.1:Nat):Int))]) (fun x w161=>Hp No w0 w161 [cQ 37 eL aq31 rows30.length cq32 x.2,cF rows30.length fun k=>pX (el rows30 k),cQ 37 eL aq43 rows42.length cq44 rows42,cF rows42.length fun k=>pL (el rows42 k),cQ 37 eL aq20 rows19.length cq21 rows19,cF rows19.length fun k=>pL (el rows19 k)]∧x.1≤rows30.length∧x.2.length=rows30.length∧∀ k,x.1≤k→k<rows30.length→el x.2 k=el rows30 k) (fun x=>rows30.length-x.1) (0,rows30) ⟨rfl,rfl,rfl,rfl,trivial⟩ ?_ ?_
     ·refine ⟨((H149.pick [2,3,0,1,4,5] (by decide)).fconv 1 rfl (g:=fun k=>pX (el rows30 k)) (fun j hj h=>⟨_,h⟩) (fun j hj b hb=>hb)),?_⟩
      try dsimp only
      exact ⟨Nat.zero_le _,rfl,fun _ _ _=>rfl⟩
     ·rintro τ162 ⟨i,rs⟩ w163 ⟨hx164,⟨hi,hrl,hrs⟩⟩
      try dsimp only at hi hrl hrs
      have hz165:=hx164.le
      intro Q166 kn167 kr168 ke169
      dsimp only at hx164 ⊢
      have hn2:=cQ_len (hx164.at 0 rfl)
      have hmx:maxLen≤9223372036854775807:=by decide
      refine seqK fun Q170 kn171 kr172 ke173=>?_
      refine sr fun Q174 k175=>qt mv<|qt mv<|qt (x_lenSl rfl Tryz.underlying23 rfl)<|qt (x_lssN rfl rfl)<|nl<|k175 _ _<|cnd (p:=i<rows30.length) rfl (fun h176=>?_) (fun h176=>?_)
      ·refine skip<|kn171 _ _<|seqK fun Q177 kn178 kr179 ke180=>blockK fun Q181 kn182 kr183 kx184 kb185=>seqK fun Q186 kn187 kr188 ke189=>?_
       refine sr fun Q190 k191=>qt asg<|nl<|k191 _ _<|blockK fun Q192 kn193 kr194 kx195 kb196=>?_
       refine loopK (α:=Nat) (fun x=>[(3,.slice aq20 rows19.length cq21),(6,.slice aq31 rows30.length cq32),(9,.slice aq43 rows42.length cq44),(12,.int .i64 ((i:Nat):Int)),(13,.int .i64 ((x:Nat):Int))]) (fun x w197=>Hp No w0 w197 [cQ 37 eL aq31 rows30.length cq32 rs,cF rows30.length fun x=>pX (el rows30 x),cQ 37 eL aq43 rows42.length cq44 rows42,cF rows42.length fun x=>pL (el rows42 x),cQ 37 eL aq20 rows19.length cq21 rows19,cF rows19.length fun x=>pL (el rows19 x)]∧x≤(el rs i).1.args.length) (fun x=>(el rs i).1.args.length-x) (0) ⟨rfl,rfl,rfl,rfl,rfl,trivial⟩ ?_ ?_
       ·refine ⟨(hx164.pick [0,1,2,3,4,5] (by decide)),?_⟩
        try dsimp only
        exact Nat.zero_le _
       ·rintro τ198 k w199 ⟨hx200,hk⟩
        try dsimp only at hk
        have hz201:=hx200.le
        intro Q202 kn203 kr204 ke205
        have he:=hrs i (Nat.le_refl _) (by omega)
        have hal:(el rs i).1.args.length≤maxLen:=by rw [he];exact cX_len ((hx200.at 1 rfl).1 i (by omega))
        refine seqK fun Q206 kn207 kr208 ke209=>?_
        refine sr fun Q210 k211=>qt mv<|qt mv<|qt mv<|qt (x_index' T.sl23 rfl ((hx200.srQ 0 rfl).addr (by omega)) rfl (by omega))<|qt (x_field (o:=(ao aq31)+i * 7) T.fa37_1 rfl)<|qt (x_field (o:=(ao aq31)+i * 7+1) T.fa32_1 rfl)<|qt (x_load1 T.na30 rfl (((hx200.srQ 0 rfl).cell (i:=i) (by omega)).fld 2 rfl))<|qt (x_lenSl rfl Tryz.underlying30 rfl)<|qt (x_lssN rfl rfl)<|nl<|k211 _ _<|cnd (p:=k<((el rs i).1.args.length)) rfl (fun h212=>?_) (fun h212=>?_)
        ·refine skip<|kn207 _ _<|seqK fun Q213 kn214 kr215 ke216=>blockK fun Q217 kn218 kr219 kx220 kb221=>region<|qt mv<|qt mv<|qt (x_index' T.sl23 rfl ((hx200.srQ 0 rfl).addr (by omega)) rfl (by omega))<|qt (x_field (o:=(ao aq31)+i * 7) T.fa37_1 rfl)<|qt (x_field (o:=(ao aq31)+i * 7+1) T.fa32_1 rfl)<|qt (x_load1 T.na30 rfl (((hx200.srQ 0 rfl).cell (i:=i) (by omega)).fld 2 rfl))<|qt mv<|qt (v:=.agg #[.bool false,.string (ByteArray.mk #[103,111,110,101])]) (x_build (fun _=>by kernel_rfl))<|?_
         have hX:(cX (α:=Tm) 35 eT (el rs i).2.1 (el rs i).1.args.length (el rs i).2.2).says w199.heap:=by rw [he];exact (hx200.at 1 rfl).1 i (by omega)
         obtain ⟨xs84,hsr84⟩:=cX_sr hX
         refine qt (x_index' T.sl30 rfl (hsr84.addr (by omega)) rfl (by omega))<|?_
         refine st_s<|EsoX (α:=Tm) (E:=eT) (q:=i) (j:=k) hx200 1 (false,(ByteArray.mk #[103,111,110,101])) T.sz35 rfl rfl (by omega) (by show pX (el rows30 i)=_;rw [← he];rfl) rfl rfl (by omega) fun w222 H223=>nl<|kn218 _ _<|kn214 _ _<|region<|qt mv<|qt (addN (b:=1) rfl rfl)<|qt asg<|nl<|?_
         refine kn203 _ ((k+1)) _ ⟨rfl,rfl,rfl,rfl,rfl,trivial⟩ ⟨(H223.pick [0,1,2,3,4,5] (by decide)),?_⟩ ?_
         ·try dsimp only
          exact (by omega)
         ·(try dsimp only);omega
        ·refine exit<|ke209 _ _ _<|ke205 _ _ _<|kb196 _ _<|kn187 _ _<|region<|qt mv<|qt mv<|qt (v:=.agg #[.int .i64 ((0:Nat):Int),.string ByteArray.empty,.slice none 0 0,.bool false,.string ByteArray.empty,.bool false,.string ByteArray.empty]) (x_build (fun _=>by kernel_rfl))<|qt (x_index' T.sl23 rfl ((hx200.srQ 0 rfl).addr (by omega)) rfl (by omega))<|?_
         refine st_s<|EsoQ (j:=i) hx200 0 (⟨0,ByteArray.empty,[],Tm0,Tm0⟩,(none,0)) T.sz37 rfl rfl rfl rfl (by omega) fun w224 H225=>nl<|kn182 _ _<|kn178 _ _<|region<|qt mv<|qt (addN (b:=1) rfl rfl)<|qt asg<|nl<|?_
         refine kn167 _ ((i+1),(rs.set i (⟨0,ByteArray.empty,[],Tm0,Tm0⟩,(none,0)))) _ ⟨rfl,rfl,rfl,rfl,trivial⟩ ⟨(H225.pick [0,1,2,3,4,5] (by decide)),?_⟩ ?_
         ·try dsimp only
          exact ⟨by omega,by rw [List.length_set];exact hrl,fun j hj hj2=>by rw [el_set_ne (by omega)];exact hrs j (by omega) hj2⟩
         ·(try dsimp only);omega
      ·refine exit<|ke173 _ _ _<|ke169 _ _ _<|kb160 _ _<|kn151 _ _<|?_
       refine sr fun Q226 k227=>qt mv<|qt mv<|?_
       refine cl T.cf9 (Same_yes (Lits.own hx164 2 3 rfl rfl) (Lits.own hx164 4 5 rfl rfl) hrb) rfl fun _ w229 ⟨er,X228⟩=>⟨_,er,?_⟩
       have H230:=hx164.ext X228
       refine qt mv<|st_gq 3 92 rfl rfl (by decide)<|?_
       refine cl T.cf6 (known6 _) rfl fun _ w232 ⟨er,X231⟩=>⟨_,er,?_⟩
       have H233:=H230.ext X231
       refine qt (pkT rfl)<|qt asg<|nl<|k227 _ _<|ret<|leave1 (P:=Tryz.prog) (fn:=Tryz.f3) (t:=2) (v:=.bool true) rfl rfl<|?_
       exact ⟨rfl,H233.x⟩
end Go.Proofs.YtljfgmedbjlkaaaGreat
