/- What the walks of the document's printing use. -/
import Derived.Test.YtljfgmedbjlkaaaGreatPGC
import Derived.Test.YtljfgmedbjlkaaaGreatQA
import Derived.Test.YtljfgmedbjlkaaaGreatQN
import Derived.Test.YtljfgmedbjlkaaaGreatV3
import Derived.Test.YtljfgmedbjlkaaaGreatVA
namespace Go.Proofs.YtljfgmedbjlkaaaGreat
open Go.RowKit Go.Eng Go.QP
theorem zB (s:ByteArray):kind s=3↔1<=s.size/\s.size<=64/\∀ j,j<s.size->48<=ch s j/\ch s j<=57:=by
 constructor
 .intro h;obtain ⟨h1,h2,h3⟩:=dV (s:=s) (by omega);have e:=aD h1 h2 h3;rw [h] at e
  by_cases hd:Dg (ch s 0)
  .rw [if_pos hd] at e
   by_cases ha:mY s
   .refine ⟨h1,h2,λj hj=>?_⟩;have a:=h3 j hj;have b:=ha j hj;unfold Go.QP.Lt at a;omega
   .rw [if_neg ha] at e;cases e
  .rw [if_neg hd] at e
   revert e
   repeat' split
   all_goals intro e;cases e
 .rintro ⟨h1,h2,h3⟩;rw [aD h1 h2 (λj hj=>by have:=h3 j hj;unfold Go.QP.Lt;omega),if_pos (h3 0 (by omega)),if_pos (show mY s from λj hj=>(h3 j hj).2)]
theorem uJ {s:ByteArray} {i:Nat} (hi:i<s.size) (h:¬ (48<=ch s i/\ch s i<=57)):l9 s↔jl s:=
 ⟨λq=>.inl ((bK s).2 q),λq=>q.elim (bK s).1 λq=>absurd ((zB s).1 q |>.2.2 i hi) h⟩
theorem uW {s:ByteArray} (h:s.size<1\/64<s.size):¬ jl s:=by
 intro q;have:=eu h
 rcases q with q | q <;> omega
theorem jH {x:Nat} (h:x=34):[92,34]=bG x:=by subst h;rfl
theorem jG {x:Nat} (h:x=92):[92,92]=bG x:=by subst h;rfl
theorem eO {s:ByteArray} {i:Nat} {ys zs:List Nat} (h:ys=34::((bl s).take i).flatMap bG) (hi:i<s.size) (hz:zs=bG (ch s i)):ys++zs=34::((bl s).take (i+1)).flatMap bG:=by
 have hl:i<(bl s).length:=by rw [bN];exact hi
 rw [hz,show ch s i=el (bl s) i from (MQ hi).symm];exact qY h hl
theorem Bp {s:ByteArray} {i:Nat} {ys:List Nat} (h:ys=34::((bl s).take i).flatMap bG) (hi:¬ i<s.size):ys++[34]=iI (bl s):=by
 rw [h,List.take_of_length_le (by rw [bN];omega)];rfl
section
variable {P:Program} {n:Nat} {σ:Nat->Value} {w:World} {ty t t':TypeId} {x y:Operand}
theorem FJ {a b:Nat} (hx:ev n σ x= .int .u8 (a:Int)) (hy:ev n σ y= .int .u8 (b:Int)) (hb:0<b) (ha:a<256):Ex P (ev n σ) w (.binOp .quo t x y t') ty (.int .u8 ((a / b:Nat):Int)):=by
 intro _ _ _ _;have e:Int.tdiv (a:Int) (b:Int)=((a / b:Nat):Int):=by rw [Int.tdiv_eq_ediv_of_nonneg (by omega)];rfl
 have hle:a / b<=a:=Nat.div_le_self a b;have h0':b≠0:=by omega
 simp [execOp,hx,hy,eqGuard,binOp,Op.intDiv,h0',e,IntKind.wrap,IntKind.bits,IntKind.signed];have e2:((a:Int) / (b:Int))=((a / b:Nat):Int):=rfl;rw [e2];generalize a / b=q at hle;omega
end
theorem mi (sep:List Nat) (x:List Nat):∀ {l:List (List Nat)},l≠[]->fD sep (l++[x])=fD sep l++sep++x
 | [],h=>absurd rfl h
 | [a],_=>by simp [fD]
 | a::b::r,_=>by
  have:=mi sep x (l:=b::r) (by simp);show a++sep++fD sep ((b::r)++[x])=_;rw [this];simp [fD]
theorem om {α β:Type} [Inhabited α] {f:α->β} {xs:List α} {i:Nat} (h:i<xs.length):(xs.take (i+1)).map f=(xs.take i).map f++[f (el xs i)]:=by
 rw [eG h,List.map_append];rfl
def j5 (p:ByteArray) (xs:List Tm) (i:Nat):List Nat:=bl p++(if i=0 then [] else 40::fD [44,32] ((xs.take i).map eF))
theorem atomP_0 {p:ByteArray} {xs:List Tm}:j5 p xs 0=bl p:=by unfold j5;simp
theorem Dv {p:ByteArray} {xs:List Tm} {i:Nat} (h:i<xs.length) (h0:i=0):j5 p xs (i+1)=j5 p xs i++[40]++eF (el xs i):=by
 subst h0;unfold j5;rw [if_neg (by omega),if_pos rfl,om h];simp [fD]
theorem BQ {p:ByteArray} {xs:List Tm} {i:Nat} (h:i<xs.length) (h0:¬ i=0):j5 p xs (i+1)=j5 p xs i++[44,32]++eF (el xs i):=by
 unfold j5
 rw [if_neg (by omega),if_neg h0,om h,mi _ _ (by
  intro e;have:=congrArg List.length e;rw [List.length_map,List.length_take] at this;have:min i xs.length=0:=this
  omega)]
 simp
theorem DC {p:ByteArray} {xs:List Tm} (h:¬ 0<xs.length):j5 p xs 0=iM p xs:=by
 have:xs=[]:=List.eq_nil_of_length_eq_zero (by omega);subst this;rw [atomP_0];rfl
theorem CY {p:ByteArray} {xs:List Tm} (h:0<xs.length):j5 p xs xs.length++[41]=iM p xs:=by
 unfold j5 iM;rw [if_neg (by omega),if_neg (by intro e;rw [e] at h;simp at h),List.take_length];simp
def nr (q:List Qlit) (i:Nat):List Nat:=fD [44,32] ((q.take i).map iE)
theorem Cz {q:List Qlit} {i:Nat} (h:i<q.length) (h0:¬ 0<i):nr q (i+1)=nr q i++iE (el q i):=by
 have:i=0:=by omega
 subst this;unfold nr;rw [om h];simp [fD]
theorem CU {q:List Qlit} {i:Nat} (h:i<q.length) (h0:0<i):nr q (i+1)=nr q i++[44,32]++iE (el q i):=by
 unfold nr
 rw [om h,mi _ _ (by
  intro e;have:=congrArg List.length e;rw [List.length_map,List.length_take] at this;have:min i q.length=0:=this
  omega)]
theorem JX (q:List Qlit):nr q q.length=xY q:=by unfold nr;rw [List.take_length];rfl
theorem bW (a b:ByteArray):bl (a++b)=bl a++bl b:=ef a b
theorem mg (s:ByteArray):s.size=(bl s).length:=(bN s).symm
abbrev Oc:=Int × ByteArray
abbrev Ij:En Oc:=⟨λx=>[.int .i64 x.1,.string x.2],2,λ_=>rfl,by decide,λ_=>rfl⟩
theorem Fz {i:Int} {ts:List Tm} {k:Nat} (h:k<ts.length):dM i (ts.take (k+1))=dM i (ts.take k)++(if (el ts k).1=true then [(i,(el ts k).2)] else []):=by
 unfold dM;rw [eG h,List.filter_append,List.map_append]
 congr 1
 by_cases e:(el ts k).1=true
 .rw [if_pos e];simp [e]
 .rw [if_neg e];simp [e]
theorem oV {i:Int} {ts:List Tm} {k:Nat} (h:k<ts.length) (e:(el ts k).1=true):dM i (ts.take (k+1))=dM i (ts.take k)++[(i,(el ts k).2)]:=by rw [Fz h,if_pos e]
theorem oP {i:Int} {ts:List Tm} {k:Nat} (h:k<ts.length) (e:¬ (el ts k).1=true):dM i (ts.take (k+1))=dM i (ts.take k):=by rw [Fz h,if_neg e,List.append_nil]
theorem nK (i:Int) (ts:List Tm) (k:Nat):(dM i (ts.take k)).length<=ts.length:=by
 unfold dM;rw [List.length_map];exact Nat.le_trans (List.length_filter_le _ _) (by rw [List.length_take];omega)
theorem Jz (z:Rx):occP z.r 1=dM (-1) (z.ha.take z.ha.length):=by
 rw [List.take_length];rfl
theorem QM {z:Rx} {j:Nat} (h:j<z.rows.length):lj z.r (j+1)=(el z.rows j).1:=by
 unfold lj;rw [if_neg (by omega)];exact fI h
theorem wD {z:Rx} {j:Nat} (h:j<z.rows.length):occP z.r (j+2)=occP z.r (j+1)++dM (j:Int) ((bT (el z.rows j).1).take (bT (el z.rows j).1).length):=by
 rw [List.take_length,← QM h,show occP z.r (j+2)=occP z.r (j+1)++dM (((j+1:Nat):Int)-1) (bT (lj z.r (j+1))) from rfl]
 congr 2
 omega
theorem Hy (z:Rx):fZ z.r=occP z.r (z.rows.length+1):=by
 unfold fZ;rw [show z.r.body.length=z.rows.length from List.length_map _]
theorem K0 {z:Rx} (h:RuB z.r) {j:Nat} (hj:j<=z.rows.length):(occP z.r (j+1)).length<=1099514773506:=by
 have e:z.r.body.length=z.rows.length:=List.length_map _;have h1:=(h.occP (j+1) (by omega)).1;have h4:=h.2.2.2.1;have:(j+1) * 1048578<=1048577 * 1048578:=Nat.mul_le_mul_right _ (by omega);omega
theorem Dq {z:Rx} (h:RuB z.r) {j:Nat} (hj:j<z.rows.length):(bT (el z.rows j).1).length<=1048578:=by
 have e:z.r.body.length=z.rows.length:=List.length_map _;have:=(h.lj (j:=j+1) (by omega)).1;rw [QM hj] at this;exact this
def jA (z:Rx):Nat->List Tm
 | 0=>z.ha
 | j+1=>jA z j++bT (el z.rows j).1
theorem vS {r:Rl}:∀ {j:Nat} {o:Oc},o ∈ occP r j↔∃ i,i<j/\∃ t ∈ bT (lj r i),t.1=true/\o=((i:Int)-1,t.2)
 | 0,o=>⟨λh=>(by cases h),λ⟨_,h,_⟩=>absurd h (Nat.not_lt_zero _)⟩
 | j+1,o=>by
  rw [occP,List.mem_append,vS]
  constructor
  .rintro (⟨i,h1,h2⟩ | h)
   .exact ⟨i,by omega,h2⟩
   .unfold dM at h;obtain ⟨t,ht,rfl⟩:=List.mem_map.1 h;exact ⟨j,by omega,t,(List.mem_filter.1 ht).1,(List.mem_filter.1 ht).2,rfl⟩
  .rintro ⟨i,h1,t,h2,h3,rfl⟩
   rcases Nat.lt_or_ge i j with h | h
   .exact .inl ⟨i,h,t,h2,h3,rfl⟩
   .have:i=j:=by omega
    subst this;exact .inr (List.mem_map.2 ⟨t,List.mem_filter.2 ⟨h2,h3⟩,rfl⟩)
def lW (z:Rx) (s:ByteArray):Prop:=∃ j,j<z.rows.length/\(el z.rows j).1.kind=1/\∃ k,k<(el z.rows j).1.args.length/\(el (el z.rows j).1.args k).1=true/\(el (el z.rows j).1.args k).2=s
theorem fC (z:Rx) (s:ByteArray):s ∈ dx z.r↔lW z s:=by
 unfold dx bX;rw [Cs]
 constructor
 .rintro ⟨o,ho,rfl⟩;unfold fZ at ho;obtain ⟨i,hi,t,ht,hv,rfl⟩:=vS.1 ho
  cases i with
  | zero=>
   rw [show lj (⟨ByteArray.empty,[],gO z.r.body⟩:Rl) 0=⟨1,ByteArray.empty,[],nA,nA⟩ from rfl,jg (.inl rfl)] at ht
   cases ht
  | succ i=>
   have hi':i<(gO z.r.body).length:=by
    have:i+1<(gO z.r.body).length+1:=hi;omega
   rw [show lj (⟨ByteArray.empty,[],gO z.r.body⟩:Rl) (i+1)=el (gO z.r.body) i from rfl] at ht
   have hm:=ak hi'
   generalize el (gO z.r.body) i=l at ht hm
   unfold gO at hm
   obtain ⟨h1,h2⟩:=List.mem_filter.1 hm
   have hk:l.kind=1:=of_decide_eq_true h2
   obtain ⟨w,hw,rfl⟩:=List.mem_map.1 h1
   obtain ⟨j,hj,rfl⟩:=aU hw
   rw [jg (.inl hk)] at ht
   obtain ⟨k,hk2,rfl⟩:=aU ht
   exact ⟨j,hj,hk,k,hk2,hv,rfl⟩
 .rintro ⟨j,hj,hk,k,hk2,hv,rfl⟩
  have hm:(el z.rows j).1 ∈ gO z.r.body:=by
   unfold gO;exact List.mem_filter.2 ⟨List.mem_map.2 ⟨_,ak hj,rfl⟩,decide_eq_true hk⟩
  obtain ⟨i,hi,he⟩:=aU hm;refine ⟨_,vS.2 ⟨i+1,?_,_,?_,hv,rfl⟩,rfl⟩
  .show i+1<(gO z.r.body).length+1;omega
  .rw [show lj (⟨ByteArray.empty,[],gO z.r.body⟩:Rl) (i+1)=el (gO z.r.body) i from rfl,he,jg (.inl hk)];exact ak hk2
theorem vL (z:Rx):∀ j,j<=z.rows.length->(occP z.r (j+1)).map (·.2)=((jA z j).filter (·.1)).map (·.2)
 | 0,_=>by
  rw [Jz,List.take_length];unfold dM jA;rw [List.map_map];rfl
 | j+1,h=>by
  rw [wD (by omega),List.take_length,List.map_append,vL z j (by omega),jA,List.filter_append,List.map_append]
  congr 1
  unfold dM;rw [List.map_map];rfl
theorem uB (z:Rx):aQ z.r=(((jA z z.rows.length).filter (·.1)).map (·.2)).find? λs=>decide (s ∉ dx z.r):=by
 rw [← vL z z.rows.length (Nat.le_refl _),← Hy];rw [List.find?_map];rfl
theorem Ml {ts:List Tm} {p:ByteArray->Bool} {i:Nat} (h:∀ q,q<i->(el ts q).1=true->p (el ts q).2=false) (hi:i<ts.length) (hv:(el ts i).1=true) (hp:p (el ts i).2=true):((ts.filter (·.1)).map (·.2)).find? p=some (el ts i).2:=by
 induction ts generalizing i with
 | nil=>exact absurd hi (Nat.not_lt_zero _)
 | cons t ts ih=>
  cases i with
  | zero=>
   have hv:t.1=true:=hv
   have hp:p t.2=true:=hp
   rw [List.filter_cons_of_pos hv,List.map_cons,List.find?_cons_of_pos hp];rfl
  | succ i=>
   have h0:t.1=true->p t.2=false:=h 0 (by omega)
   have:=ih (i:=i) (λq hq=>h (q+1) (by omega)) (by simpa using hi) hv hp
   by_cases e:t.1=true
   .rw [List.filter_cons_of_pos e,List.map_cons,List.find?_cons_of_neg (by rw [h0 e];decide)];exact this
   .rw [List.filter_cons_of_neg e];exact this
theorem Ls {ts:List Tm} {p:ByteArray->Bool} (h:∀ q,q<ts.length->(el ts q).1=true->p (el ts q).2=false):((ts.filter (·.1)).map (·.2)).find? p=none:=by
 rw [List.find?_eq_none];intro s hs;obtain ⟨t,ht,rfl⟩:=List.mem_map.1 hs;obtain ⟨q,hq,rfl⟩:=aU (List.mem_filter.1 ht).1;rw [h q hq (List.mem_filter.1 ht).2];decide
theorem Hw {z:Rx} {i:Nat} (h:∀ q,q<i->(el (jA z z.rows.length) q).1=true->lW z (el (jA z z.rows.length) q).2) (hi:i<(jA z z.rows.length).length) (hv:(el (jA z z.rows.length) i).1=true) (hp:¬ lW z (el (jA z z.rows.length) i).2):aQ z.r=some (el (jA z z.rows.length) i).2:=by
 rw [uB];exact Ml (λq hq hv=>decide_eq_false (not_not_intro ((fC z _).2 (h q hq hv)))) hi hv (decide_eq_true λq=>hp ((fC z _).1 q))
theorem He {z:Rx} (h:∀ q,q<(jA z z.rows.length).length->(el (jA z z.rows.length) q).1=true->lW z (el (jA z z.rows.length) q).2):aQ z.r=none:=by
 rw [uB];exact Ls λq hq hv=>decide_eq_false (not_not_intro ((fC z _).2 (h q hq hv)))
theorem MI {z:Rx} (h:RuB z.r):∀ {j:Nat},j<=z.rows.length->(jA z j).length<=(j+1) * 1048578
 | 0,_=>by
  have:=h.2.1;show z.ha.length<=_;have e:z.r.ha.length=z.ha.length:=rfl;omega
 | j+1,hj=>by
  have h1:=MI h (j:=j) (by omega);have h2:=Dq h (j:=j) (by omega);rw [jA,List.length_append];omega
theorem Mt {z:Rx} (h:RuB z.r) {j:Nat} (hj:j<=z.rows.length):(jA z j).length<=1099514773506:=by
 have e:z.r.body.length=z.rows.length:=List.length_map _;have h1:=MI h hj;have h4:=h.2.2.2.1;have:(j+1) * 1048578<=1048577 * 1048578:=Nat.mul_le_mul_right _ (by omega);omega
theorem Ms {z:Rx} {j:Nat} (h:(el z.rows j).1.kind=1\/(el z.rows j).1.kind=2):jA z (j+1)=jA z j++(el z.rows j).1.args:=by rw [jA,jg h]
theorem Nj {z:Rx} {j:Nat} (h:(el z.rows j).1.kind=3):jA z (j+1)=jA z j++[(el z.rows j).1.left,(el z.rows j).1.right]:=by rw [jA,wG (by omega) h]
abbrev Cq:En Use:=⟨λu=>[.int .i64 (u.kd:Int),.int .i64 (u.ix:Int),.string u.pr,.int .i64 u.ar],4,λ_=>rfl,by decide,λ_=>rfl⟩
def PR (x:Px):List Use:=uI x.p x.ins.length++uO x.p x.outs.length
theorem MG (x:Px):(PR x).length=x.ins.length+x.outs.length:=by unfold PR;rw [List.length_append,DF,Gm]
theorem PZ {x:Px} (h:PgB x.p) {k:Nat} (hk:k<=x.rules.length):(uR x.p k).length<=1099512676352:=by
 have h1:=Ot h k (by rw [gY];exact hk);have h4:=h.2.2.1;rw [gY] at h4;have:k * 1048577<=1048576 * 1048577:=Nat.mul_le_mul_right _ (by omega);omega
theorem QX {x:Px} {k:Nat} (h:k<x.rules.length):uR x.p (k+1)=uR x.p k++uL k (el x.rules k).r (el x.rules k).rows.length:=by
 rw [uR,oF h,show (el x.rules k).r.body.length=(el x.rules k).rows.length from List.length_map _]
theorem MN {z:Rx} {i m:Nat} (hm:m<z.rows.length) (hk:¬ (el z.rows m).1.kind≠3):uL i z.r (m+1)=uL i z.r m:=by
 rw [uL,xQ hm,if_pos (Decidable.of_not_not hk),List.append_nil]
theorem MU {z:Rx} {i m:Nat} (hm:m<z.rows.length) (hk:(el z.rows m).1.kind≠3):uL i z.r (m+1)=uL i z.r m++[⟨3,i,(el z.rows m).1.pred,(el z.rows m).1.args.length⟩]:=by
 rw [uL,xQ hm,if_neg hk]
theorem PH (x:Px):au x.p=PR x++uR x.p x.rules.length:=by unfold au PR;rw [gY];rfl
theorem Kv {us:List Use} {s:ByteArray} {i:Nat} (h:∀ q,q<i->(el us q).pr≠s) (hi:i<us.length) (hs:(el us i).pr=s):bU us s=some (el us i).ar:=by
 unfold bU
 induction us generalizing i with
 | nil=>exact absurd hi (Nat.not_lt_zero _)
 | cons u us ih=>
  cases i with
  | zero=>
   have hs:u.pr=s:=hs
   rw [List.find?_cons_of_pos (by simpa using hs)];rfl
  | succ i=>
   have h0:u.pr≠s:=h 0 (by omega)
   rw [List.find?_cons_of_neg (by simpa using h0)]
   exact ih (i:=i) (λq hq=>h (q+1) (by omega)) (by simpa using hi) hs
theorem K5 {us:List Use} {s:ByteArray} (h:∀ q,q<us.length->(el us q).pr≠s):bU us s=none:=by
 unfold bU;rw [Option.map_eq_none_iff,List.find?_eq_none];intro u hu;obtain ⟨q,hq,rfl⟩:=aU hu
 simpa using h q hq
theorem CG {us:List Use} {i:Nat} (hi:i<us.length):(el us i).ar=(bU us (el us i).pr).getD (-1)↔bU us (el us i).pr=some (el us i).ar:=by
 obtain ⟨a,ha⟩:=lJ hi;rw [ha];exact ⟨λh=>by rw [h];rfl,λh=>by injection h with h;exact h.symm⟩
def NY (x:Px) (s:ByteArray) (k:Nat):Prop:=(el x.rules k).hp=s/\0<(el x.rules k).rows.length
theorem lF {x:Px} {s:ByteArray} {k:Nat} (h:k<x.rules.length):cD x.p s (k+1)=cD x.p s k+if (el x.rules k).hp=s/\(el x.rules k).rows.length≠0 then 1 else 0:=by
 rw [cD,oF h,show (el x.rules k).r.body.length=(el x.rules k).rows.length from List.length_map _];rfl
theorem Dz {x:Px} {s:ByteArray}:∀ {k:Nat},k<=x.rules.length->(∀ q,q<k->¬ NY x s q)->cD x.p s k=0
 | 0,_,_=>rfl
 | k+1,hk,h=>by
  rw [lF hk,Dz (by omega) (λq hq=>h q (by omega)),if_neg (λq=>h k (by omega) ⟨q.1,by omega⟩)]
theorem Cw {x:Px} {s:ByteArray}:∀ {k n:Nat},k<=n->n<=x.rules.length->cD x.p s k<=cD x.p s n
 | k,0,h,_=>by rw [show k=0 by omega];exact Nat.le_refl _
 | k,n+1,h,hn=>by
  rcases Nat.lt_or_ge k (n+1) with q | q
  .have:=Cw (x:=x) (s:=s) (k:=k) (n:=n) (by omega) (by omega);rw [lF hn];omega
  .rw [show k=n+1 by omega];exact Nat.le_refl _
theorem NX {x:Px} {s:ByteArray} {k:Nat} (hk:k<x.rules.length) (h:NY x s k):cD x.p s x.rules.length≠0:=by
 have:=Cw (x:=x) (s:=s) (k:=k+1) (n:=x.rules.length) hk (Nat.le_refl _);rw [lF hk,if_pos ⟨h.1,by have:=h.2;omega⟩] at this;omega
open Go.Sort Go.Lib
theorem Dt:∀ a b:List UInt8,Op.bytesLess a b=true↔compareBytes a b<0
 | [],[]=>by simp [Op.bytesLess,compareBytes]
 | [],_::_=>by simp [Op.bytesLess,compareBytes]
 | _::_,[]=>by simp [Op.bytesLess,compareBytes]
 | x::r,y::s=>by
  rw [Op.bytesLess,compareBytes]
  by_cases h1:x<y
  .simp [h1]
  .by_cases h2:y<x
   .have:x≠y:=λe=>by subst e;exact h1 h2
    simp [h1,h2,this]
   .have e:x=y:=UInt8.le_antisymm (UInt8.not_lt.1 h2) (UInt8.not_lt.1 h1);subst e;simp [Dt r s]
theorem j7 (a b:ByteArray):Op.bytesLess a.toList b.toList=true↔cb a b<0:=by
 rw [ByteArray.toList_eq,ByteArray.toList_eq];exact Dt _ _
theorem wY (a b:ByteArray):(Op.bytesLess a.toList b.toList || a.toList == b.toList)=false↔cb b a<0:=by
 have h:=iU a b
 constructor
 .intro q;simp only [Bool.or_eq_false_iff,beq_eq_false_iff_ne,ne_eq] at q;have h1:¬ cb a b<0:=λk=>by rw [(j7 a b).2 k] at q;cases q.1
  have h2:¬ cb a b=0:=λk=>q.2 (by rw [Er k]);omega
 .intro q;simp only [Bool.or_eq_false_iff,beq_eq_false_iff_ne,ne_eq];refine ⟨?_,λe=>?_⟩
  .rw [Bool.eq_false_iff,Ne,j7];omega
  .have:=aC e;subst this;rw [show cb a a=0 from dY _] at q;omega
def Best (us:List Use) (i:Nat) (last b:ByteArray):Prop:=
 (b=ByteArray.empty/\∀ q,q<i->¬ cb last (el us q).pr<0)\/(b≠ByteArray.empty/\cb last b<0/\(∃ q,q<i/\(el us q).pr=b)/\∀ q,q<i->cb last (el us q).pr<0->¬ cb (el us q).pr b<0)
theorem Best.zero {us:List Use} {last:ByteArray}:Best us 0 last ByteArray.empty:=.inl ⟨rfl,λ_ h=>absurd h (Nat.not_lt_zero _)⟩
theorem Q9 {a b:ByteArray} (h:cb a b<0):a≠b:=λe=>by subst e;rw [show cb a a=0 from dY _] at h;omega
theorem Best.take {us:List Use} {i:Nat} {last b:ByteArray} (h:Best us i last b) (hne:(el us i).pr≠ByteArray.empty) (h1:cb last (el us i).pr<0) (h2:b=ByteArray.empty\/cb (el us i).pr b<0):Best us (i+1) last (el us i).pr:=by
 refine .inr ⟨hne,h1,⟨i,by omega,rfl⟩,λq hq hl k=>?_⟩
 rcases Nat.lt_or_ge q i with hqi | hqi
 .rcases h with ⟨_,hn⟩ | ⟨hb,_,_,hm⟩
  .exact hn q hqi hl
  .rcases h2 with h2 | h2
   .exact hb h2
   .exact hm q hqi hl (ow k h2)
 .rw [show q=i by omega] at k;exact Q9 k rfl
theorem Best.skip {us:List Use} {i:Nat} {last b:ByteArray} (h:Best us i last b) (h2:cb last (el us i).pr<0->b≠ByteArray.empty/\¬ cb (el us i).pr b<0):Best us (i+1) last b:=by
 rcases h with ⟨hb,hn⟩ | ⟨hb,hl,⟨q0,hq0,he⟩,hm⟩
 .refine .inl ⟨hb,λq hq=>(Nat.lt_or_ge q i).elim (hn q) λh3=>?_⟩;rw [show q=i by omega];exact λk=>(h2 k).1 hb
 .refine .inr ⟨hb,hl,⟨q0,by omega,he⟩,λq hq hl2=>(Nat.lt_or_ge q i).elim (λh3=>hm q h3 hl2) λh3=>?_⟩;rw [show q=i by omega] at hl2 ⊢;exact (h2 hl2).2
theorem NK {s:ByteArray} (h:s≠ByteArray.empty):cb ByteArray.empty s<0:=by
 obtain ⟨⟨l⟩⟩:=s
 cases l with
 | nil=>exact absurd rfl h
 | cons x r=>exact (by decide:(-1:Int)<0)
theorem CD {s:ByteArray} (h:kind s=1):s≠ByteArray.empty:=λe=>by
 have:=dV (s:=s) (by rw [h];decide);rw [e] at this;exact absurd this.1 (by decide)
theorem Ni {p:Pg} (h:FmP p):∀ {k:Nat},k<=p.ins.length->∀ u ∈ uI p k,u.pr≠ByteArray.empty
 | 0,_,_,hu=>by cases hu
 | k+1,hk,u,hu=>by
  rw [uI] at hu
  rcases List.mem_append.1 hu with hu | hu
  .exact Ni h (by omega) u hu
  .rw [List.mem_singleton] at hu;subst hu;exact CD (h.1 _ (ak (xs:=p.ins) (i:=k) (by omega))).1.1
theorem M4 {p:Pg} (h:FmP p):∀ {k:Nat},k<=p.outs.length->∀ u ∈ uO p k,u.pr≠ByteArray.empty
 | 0,_,_,hu=>by cases hu
 | k+1,hk,u,hu=>by
  rw [uO] at hu
  rcases List.mem_append.1 hu with hu | hu
  .exact M4 h (by omega) u hu
  .rw [List.mem_singleton] at hu;subst hu;exact CD (h.2.1 _ (ak (xs:=p.outs) (i:=k) (by omega))).1
theorem MB {i:Nat} {r:Rl} (h:pT r):∀ {m:Nat},m<=r.body.length->∀ u ∈ uL i r m,u.pr≠ByteArray.empty
 | 0,_,u,hu=>by
  rw [uL,List.mem_singleton] at hu;subst hu;exact CD h.1.1
 | m+1,hm,u,hu=>by
  rw [uL] at hu
  rcases List.mem_append.1 hu with hu | hu
  .exact MB h (by omega) u hu
  .split at hu
   .cases hu
   .rename_i hk;rw [List.mem_singleton] at hu;subst hu;exact CD (az (h.2.2 _ (ak (xs:=r.body) (i:=m) (by omega))) hk).1.1
theorem Nf {p:Pg} (h:FmP p):∀ {k:Nat},k<=p.rules.length->∀ u ∈ uR p k,u.pr≠ByteArray.empty
 | 0,_,_,hu=>by cases hu
 | k+1,hk,u,hu=>by
  rw [uR] at hu
  rcases List.mem_append.1 hu with hu | hu
  .exact Nf h (by omega) u hu
  .exact MB (h.2.2 _ (ak (xs:=p.rules) (i:=k) (by omega))) (Nat.le_refl _) u hu
theorem Lg {p:Pg} (h:FmP p):∀ u ∈ au p,u.pr≠ByteArray.empty:=by
 intro u hu;unfold au at hu
 rcases List.mem_append.1 hu with hu | hu
 .rcases List.mem_append.1 hu with hu | hu
  .exact Ni h (Nat.le_refl _) u hu
  .exact M4 h (Nat.le_refl _) u hu
 .exact Nf h (Nat.le_refl _) u hu
structure LR (p:Pg) (last:ByteArray) (rs:List Ro):Prop where
 srt:∀ i j,i<j->j<rs.length->cb (el rs i).1 (el rs j).1<0
 ok:∀ r ∈ rs,roF p r.1=some r
 top:∀ r ∈ rs,¬ cb last r.1<0
 cov:∀ u ∈ au p,¬ cb last u.pr<0->u.pr ∈ rs.map (·.1)
theorem LR.start {p:Pg} (h:∀ u ∈ au p,u.pr≠ByteArray.empty):LR p ByteArray.empty []:=
 ⟨λ_ _ _ h=>absurd h (Nat.not_lt_zero _),λ_ h=>(by cases h),λ_ h=>(by cases h),λu hu hn=>absurd (NK (h u hu)) hn⟩
theorem G7 {a b c:ByteArray} (h:¬ cb b a<0) (k:cb b c<0):cb a c<0:=by
 have:=iU a b
 by_cases e:cb a b=0
 .rw [Er e];exact k
 .exact ow (show cb a b<0 by omega) k
theorem LR.next {p:Pg} {last b:ByteArray} {rs:List Ro} {r:Ro} (h:LR p last rs) (hb:b≠ByteArray.empty) (hB:Best (au p) (au p).length last b) (hr:roF p b=some r):LR p b (rs++[r]):=by
 have hr1:=uu hr
 rcases hB with ⟨e,_⟩ | ⟨_,hl,⟨q0,hq0,he⟩,hm⟩
 .exact absurd e hb
 have hle:∀ z ∈ rs,cb z.1 b<0:=λz hz=>G7 (h.top z hz) hl;have hlen:(rs++[r]).length=rs.length+1:=by simp
 have e1:∀ i,i<rs.length->el (rs++[r]) i=el rs i:=λi hi=>by
  rw [aF (by omega),aF hi,List.getElem_append_left hi]
 have e2:el (rs++[r]) rs.length=r:=by
  rw [aF (by omega),List.getElem_append_right (Nat.le_refl _)];simp
 refine ⟨λi j hij hj=>?_,λz hz=>?_,λz hz=>?_,λu hu hn=>?_⟩
 .rw [hlen] at hj
  rcases Nat.lt_or_ge j rs.length with hjr | hjr
  .rw [e1 i (by omega),e1 j hjr];exact h.srt i j hij hjr
  .have:j=rs.length:=by omega
   subst this;rw [e1 i hij,e2,hr1];exact hle _ (ak hij)
 .rcases List.mem_append.1 hz with hz | hz
  .exact h.ok z hz
  .rw [List.mem_singleton] at hz;subst hz;rw [hr1];exact hr
 .rcases List.mem_append.1 hz with hz | hz
  .have h1:=hle z hz;have h2:=iU z.1 b;omega
  .rw [List.mem_singleton] at hz;subst hz;rw [hr1,show cb b b=0 from dY _];omega
 .rw [List.map_append,List.mem_append]
  by_cases k:cb last u.pr<0
  .obtain ⟨q,hq,rfl⟩:=aU hu;have h1:=hm q hq k;have h2:=iU (el (au p) q).pr b;have e:cb (el (au p) q).pr b=0:=by omega
   exact .inr (by rw [Er e,List.map_cons,List.map_nil,List.mem_singleton,hr1])
  .exact .inl (h.cov u hu k)
theorem LR.done {p:Pg} {last:ByteArray} {rs:List Ro} (h:LR p last rs) (hB:Best (au p) (au p).length last ByteArray.empty):RolesL p rs:=by
 rcases hB with ⟨_,hn⟩ | ⟨e,_⟩
 .refine ⟨h.srt,λr=>⟨h.ok r,λhr=>?_⟩⟩;obtain ⟨u,hu,he⟩:=List.mem_map.1 (lK hr);obtain ⟨q,hq,rfl⟩:=aU hu;have h1:=h.cov _ (ak hq) (hn q hq);rw [he] at h1;obtain ⟨r',hr',e⟩:=List.mem_map.1 h1;have h2:=h.ok r' hr';rw [e,hr] at h2;injection h2 with h2;rw [h2];exact hr'
 .exact absurd rfl e
def Cf (us:List Use) (last:ByteArray):Nat:=(us.map λu=>if cb last u.pr<0 then 1 else 0).sum
theorem GU {us:List Use} {last b:ByteArray} (hB:Best us us.length last b) (hb:b≠ByteArray.empty):Cf us b<Cf us last:=by
 rcases hB with ⟨e,_⟩ | ⟨_,hl,⟨q0,hq0,he⟩,_⟩
 .exact absurd e hb
 unfold Cf;refine wg (z:=el us q0) (λu _=>?_) (ak hq0) ?_
 .by_cases k:cb b u.pr<0
  .rw [if_pos k,if_pos (ow hl k)];exact Nat.le_refl _
  .rw [if_neg k];exact Nat.zero_le _
 .rw [he,if_neg (by rw [show cb b b=0 from dY _];omega),if_pos hl];decide
theorem FN {x:Px} {s:ByteArray} {a:Int} (h:bU (au x.p) s=some a):roF x.p s=some (s,a,decide (cD x.p s x.rules.length≠0),(cI x.p s x.ins.length:Int),(cO x.p s x.outs.length:Int),(cF x.p s x.rules.length:Int),(cD x.p s x.rules.length:Int)):=by
 unfold roF;rw [h,gY];rfl
def SrtD (ds:List Dp):Prop:=ds.Pairwise λx y=>ltOf mG x y=true
theorem PD {x y z:Dp} (h:ltOf mG x y=true) (k:ltOf mG y z=true):ltOf mG x z=true:=swoDp.trans x y z h k
theorem Ll {x y:Dp} (h:¬ ltOf mG x y=true) (k:x≠y):ltOf mG y x=true:=by
 rw [ue] at h ⊢;have a1:=iU x.1 y.1;have a2:=iU x.2.1 y.2.1
 by_cases h0:cb x.1 y.1=0
 .have e:=Er h0;refine .inr ⟨e.symm,?_⟩
  by_cases k0:cb x.2.1 y.2.1=0
  .have e2:=Er k0;refine .inr ⟨e2.symm,?_⟩;cases hx:x.2.2 <;> cases hy:y.2.2
   .exact absurd (Prod.ext e (Prod.ext e2 (hx.trans hy.symm))) k
   .exact absurd (.inr ⟨e,.inr ⟨e2,hx,hy⟩⟩) h
   .exact ⟨rfl,rfl⟩
   .exact absurd (Prod.ext e (Prod.ext e2 (hx.trans hy.symm))) k
  .exact .inl (by have:¬ cb x.2.1 y.2.1<0:=λq=>h (.inr ⟨e,.inl q⟩);omega)
 .exact .inl (by have:¬ cb x.1 y.1<0:=λq=>h (.inl q);omega)
theorem SrtD.put {ds:List Dp} {d:Dp} {i:Nat} (h:SrtD ds) (hi:i<=ds.length) (h1:∀ q,q<i->ltOf mG (el ds q) d=true) (h2:i<ds.length->¬ ltOf mG (el ds i) d=true/\el ds i≠d):SrtD (ds.take i++d::ds.drop i)/\∀ x,x ∈ ds.take i++d::ds.drop i↔x ∈ ds\/x=d:=by
 have hl:∀ x ∈ ds.take i,ltOf mG x d=true:=λx hx=>by
  obtain ⟨q,hq,rfl⟩:=aU hx;rw [List.length_take] at hq
  have e:el (ds.take i) q=el ds q:=by
   rw [aF (by rw [List.length_take];exact hq),aF (by omega),List.getElem_take]
  rw [e];exact h1 q (by omega)
 have hsplit:=h;unfold SrtD at hsplit;rw [← List.take_append_drop i ds,List.pairwise_append] at hsplit
 have hr:∀ x ∈ ds.drop i,ltOf mG d x=true:=λx hx=>by
  have hlt:i<ds.length:=by
   rcases Nat.lt_or_ge i ds.length with k | k
   .exact k
   .rw [List.drop_eq_nil_of_le k] at hx;cases hx
  have h3:=Ll (h2 hlt).1 (h2 hlt).2;rw [List.drop_eq_getElem_cons hlt,← aF hlt] at hx
  rcases List.mem_cons.1 hx with rfl | hx
  .exact h3
  .have h4:=hsplit.2.1;rw [List.drop_eq_getElem_cons hlt,← aF hlt] at h4;exact PD h3 ((List.pairwise_cons.1 h4).1 x hx)
 refine ⟨?_,λx=>?_⟩
 .unfold SrtD;rw [List.pairwise_append];refine ⟨hsplit.1,List.pairwise_cons.2 ⟨hr,hsplit.2.1⟩,λx hx y hy=>?_⟩
  rcases List.mem_cons.1 hy with rfl | hy
  .exact hl x hx
  .exact hsplit.2.2 x hx y hy
 .rw [List.mem_append,List.mem_cons]
  conv=>rhs;rw [← List.take_append_drop i ds,List.mem_append]
  constructor
  .rintro (h | h | h)
   .exact .inl (.inl h)
   .exact .inr h
   .exact .inl (.inr h)
  .rintro ((h | h) | h)
   .exact .inl h
   .exact .inr (.inr h)
   .exact .inr (.inl h)
def ShD (ds xs:List Dp) (j:Nat):Prop:=∃ w,xs=ds.take j++w::ds.drop j
theorem ShD.step {ds xs:List Dp} {j:Nat} (h:ShD ds xs j) (h0:0<j) (hj:j<=ds.length):ShD ds (xs.set j (el xs (j-1))) (j-1):=by
 obtain ⟨w,rfl⟩:=h;have hlt:(ds.take j).length=j:=by rw [List.length_take];omega
 have e1:el (ds.take j++w::ds.drop j) (j-1)=el ds (j-1):=by
  rw [aF (by rw [List.length_append,hlt];simp;omega),aF (by omega),List.getElem_append_left (by rw [hlt];omega),List.getElem_take]
 refine ⟨el ds (j-1),?_⟩;rw [e1,List.set_append_right _ _ (by rw [hlt];exact Nat.le_refl _),hlt,Nat.sub_self,List.set_cons_zero]
 have e2:ds.drop (j-1)=el ds (j-1)::ds.drop j:=by
  rw [List.drop_eq_getElem_cons (by omega),aF (by omega),show j-1+1=j by omega]
 have e3:ds.take j=ds.take (j-1)++[el ds (j-1)]:=by
  have:=eG (xs:=ds) (i:=j-1) (by omega);rw [show j-1+1=j by omega] at this;exact this
 rw [e2,e3,List.append_assoc];rfl
theorem ShD.done {ds xs:List Dp} {i:Nat} {d:Dp} (h:ShD ds xs i) (hi:i<=ds.length):xs.set i d=ds.take i++d::ds.drop i:=by
 obtain ⟨w,rfl⟩:=h;have hlt:(ds.take i).length=i:=by rw [List.length_take];omega
 rw [List.set_append_right _ _ (by rw [hlt];exact Nat.le_refl _),hlt,Nat.sub_self,List.set_cons_zero]
theorem ShD.start {ds:List Dp} {d:Dp}:ShD ds (ds++[d]) ds.length:=⟨d,by rw [List.take_length,List.drop_length]⟩
section
variable {P:Program} {n:Nat} {σ:Nat->Value} {w:World} {ty t t':TypeId} {x y:Operand} {a b a' b':ByteArray} {c c':Bool}
theorem NF (h:EQ3 P t) (hx:ev n σ x= .agg #[.string a,.string b,.bool c]) (hy:ev n σ y= .agg #[.string a',.string b',.bool c']):Ex P (ev n σ) w (.binOp .eql t x y t') ty (.bool (decide ((a,b,c)=(a',b',c')))):=by
 intro _ _ _ _;have h1:=J3 h 9998 a b a' b' c c' w;have h2:=h.gd;simp [execOp,hx,hy,eqGuard,binOp,Op.equal,Op.maxDepth,h1,h2]
end
def uQ (ts:List Ti) (s:ByteArray):Option Nat:=(ts.find? λt=>decide (t.1=s)).map (·.2)
theorem NG {ts:List Ti} (hn:(ts.map (·.1)).Nodup) {i:Nat} (hi:i<ts.length) {s:ByteArray} (hs:(el ts i).1=s):uQ ts s=some (el ts i).2:=by
 induction ts generalizing i with
 | nil=>exact absurd hi (Nat.not_lt_zero _)
 | cons t ts ih=>
  unfold uQ
  rw [List.map_cons,List.nodup_cons] at hn
  cases i with
  | zero=>
   have hs:t.1=s:=hs
   rw [List.find?_cons_of_pos (by simpa using hs)];rfl
  | succ i=>
   have hi':i<ts.length:=by simpa using hi
   have hs:(el ts i).1=s:=hs
   have hne:t.1≠s:=λe=>hn.1 (List.mem_map.2 ⟨el ts i,ak hi',by rw [hs,e]⟩)
   rw [List.find?_cons_of_neg (by simpa using hne)]
   exact ih hn.2 hi' hs
theorem J5 {ts:List Ti} (hn:(ts.map (·.1)).Nodup) {i:Nat} (hi:i<ts.length) {s:ByteArray} (hs:(el ts i).1=s) (v:Nat):uQ (ts.set i (s,v))=λy=>if y=s then some v else uQ ts y:=by
 funext y
 induction ts generalizing i with
 | nil=>exact absurd hi (Nat.not_lt_zero _)
 | cons t ts ih=>
  rw [List.map_cons,List.nodup_cons] at hn
  cases i with
  | zero=>
   have hs:t.1=s:=hs
   rw [List.set_cons_zero]
   unfold uQ
   by_cases e:s=y
   .rw [List.find?_cons_of_pos (by simpa using e),if_pos e.symm];rfl
   .rw [List.find?_cons_of_neg (by simpa using e),List.find?_cons_of_neg (by rw [hs];simpa using e),if_neg (λh=>e h.symm)]
  | succ i=>
   have hi':i<ts.length:=by simpa using hi
   have hs:(el ts i).1=s:=hs
   have hne:t.1≠s:=λe=>hn.1 (List.mem_map.2 ⟨el ts i,ak hi',by rw [hs,e]⟩)
   rw [List.set_cons_succ]
   have ih:=ih hn.2 hi' hs
   unfold uQ at ih ⊢
   by_cases e:t.1=y
   .rw [List.find?_cons_of_pos (by simpa using e),List.find?_cons_of_pos (by simpa using e),if_neg (λh=>hne (e.trans h))]
   .rw [List.find?_cons_of_neg (by simpa using e),List.find?_cons_of_neg (by simpa using e)]
    exact ih
theorem Em {ts:List Ti} {i:Nat} (hi:i<ts.length) {s:ByteArray} (hs:(el ts i).1=s) (v:Nat):(ts.set i (s,v)).map (·.1)=ts.map (·.1):=by
 rw [List.map_set];refine List.ext_getElem (by rw [List.length_set]) λk h1 h2=>?_;rw [List.getElem_set]
 split
 .rename_i e;subst e;rw [List.getElem_map,← aF hi,hs]
 .rfl
theorem yL (rs:List Ro) (s:ByteArray):(uQ (rs.map λr=>(r.1,0)) s).getD 0=0:=by
 unfold uQ
 induction rs with
 | nil=>rfl
 | cons r rs ih=>
  rw [List.map_cons]
  by_cases e:r.1=s
  .rw [List.find?_cons_of_pos (by simpa using e)];rfl
  .rw [List.find?_cons_of_neg (by simpa using e)];exact ih
structure LvT (ds:List Dp) (ps:List ByteArray) (ts:List Ti):Prop where
 nm:ts.map (·.1)=ps
 lv:LvI ds ps.length (uQ ts)
theorem LvT.start {ds:List Dp} {rs:List Ro}:LvT ds (rs.map (·.1)) (rs.map λr=>(r.1,0)):=
 ⟨by rw [List.map_map];rfl,λ_ _ s=>by rw [yL];exact Nat.zero_le _,λs=>by rw [yL];exact Nat.zero_le _⟩
theorem LvT.get {ds:List Dp} {ps:List ByteArray} {ts:List Ti} (h:LvT ds ps ts) (hn:ps.Nodup) {i:Nat} (hi:i<ts.length) {s:ByteArray} (hs:(el ts i).1=s):(uQ ts s).getD 0=(el ts i).2:=by
 rw [NG (by rw [h.nm];exact hn) hi hs];rfl
theorem LvT.len {ds:List Dp} {ps:List ByteArray} {ts:List Ti} (h:LvT ds ps ts):ts.length=ps.length:=by rw [← h.nm,List.length_map]
theorem LvT.up {ds:List Dp} {ps:List ByteArray} {ts:List Ti} (h:LvT ds ps ts) (hn:ps.Nodup) {d:Dp} (hd:d ∈ ds) (hp:d.1 ∈ ps) {i:Nat} (hi:i<ts.length) (hs:(el ts i).1=d.1) {v:Nat} (hv:v=(uQ ts d.2.1).getD 0+ng d) (hl:(el ts i).2<v) (hle:v<=ps.length) :
  LvT ds ps (ts.set i ((el ts i).1,v))/\qo ps (uQ (ts.set i ((el ts i).1,v)))<qo ps (uQ ts):=by
 rw [hs];have e:=J5 (ts:=ts) (by rw [h.nm];exact hn) hi hs v;refine ⟨⟨by rw [Em hi hs];exact h.nm,?_⟩,?_⟩
 .rw [e];exact h.lv.up hd hv hle
 .rw [e];exact oh hp (by rw [h.get hn hi hs];exact hl) hle
end Go.Proofs.YtljfgmedbjlkaaaGreat
