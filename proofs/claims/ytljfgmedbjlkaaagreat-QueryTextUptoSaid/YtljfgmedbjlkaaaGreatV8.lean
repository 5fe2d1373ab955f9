/- A text appended onto a list of bytes. Over any program. -/
import Derived.Test.YtljfgmedbjlkaaaGreatV3
import Derived.Test.YtljfgmedbjlkaaaGreatLkS
import Derived.Test.YtljfgmedbjlkaaaGreatSNum
import Derived.Test.YtljfgmedbjlkaaaGreatLkR
import Derived.Laws.Runes
namespace Go.Eng
open Go.RowKit Go.Lk
section
variable {P:Program} {n:Nat} {σ:Nat->Value} {w:World} {ty t u:TypeId} {x y:Operand} {K:Value->World->Prop} {e k0 bb m c:Nat} {z:Value} {a:Option Addr} {s:ByteArray}
abbrev cT (s:ByteArray):List Value:=(bl s).map λc:Nat=>Value.int .u8 (c:Int)
theorem LY:AppSrc P (.string s) s.size 1 (cT s) w:=by
 have hx:(s.extract 0 s.size)=s:=by simp
 have hlen:=aX (s:=s)
 have hrun:∀ w:World,(Builtin.firstCells 1 s.size (.string s)).run P w= .ok (cT s).toArray w:=λw=>by
  simp only [Builtin.firstCells,hx,Sem.run_pure]
  congr 1
  apply Array.ext';simp [cT,bl,List.map_map]
 exact ⟨λw'=>by simp [Builtin.lenOf],hrun w,hrun w.drew,by simp [cT,bN]⟩
theorem Bl {cs:List Value} (hS:SL P t e k0 bb z) (hu:P.underlying u=some .string) (hs:ev n σ x= .slice a m c) (hx:ev n σ y= .string s) (hk1:k0=1) (hown:OwnQ w.heap e k0 a m c cs)
  (hbytes:(m+s.size) * bb<=140737488355328) (hbb:0<bb)
  (kk:∀ a' c' w',OwnQ w'.heap e k0 a' (m+s.size) c' (cs++cT s)->Went w w' a c a' c'->K (.slice a' (m+s.size) c') w') :
  fU P (ev n σ) w (.call { callee:=.builtin .append,args:=#[x,y],argTypes:=#[t,u] }) ty K:=by
 obtain ⟨i,hi,hk,hbb',hz⟩:=hS.inf;subst hk;subst hbb';have hA:AppSrc P (.string s) s.size i.size (cT s) w:=by rw [hk1];exact LY
 have hlS:(cT s).length=s.size * i.size:=hA.size;have h63:m+s.size<=140737488355328:=Nat.le_trans (Nat.le_mul_of_pos_right _ hbb) hbytes;have fin:∀ v w',(Builtin.append_ #[t,u] ty #[.slice a m c,.string s]).run P w= .ok v w'->K v w'->fU P (ev n σ) w (.call { callee:=.builtin .append,args:=#[x,y],argTypes:=#[t,u] }) ty K:=λv w' hr hK=>
  ⟨v,w',hK,.inl λ_ _ _ _=>by simp [execOp,resolve,invoke,builtin,hs,hx,hr]⟩
 have hu':∃ d,P.underlying u=some d/\∀ k,d≠.int k:=⟨_,hu,by intros;simp⟩;have one:∀ v ∈ cT s,v.oneCell'=true:=λv hv=>by obtain ⟨c,_,rfl⟩:=List.mem_map.1 hv;rfl
 have oneO:∀ v ∈ cT s,K9 v:=λv hv=>by obtain ⟨c,_,rfl⟩:=List.mem_map.1 hv;exact λ_=>⟨(by intro e;cases e),(by intro e;cases e)⟩
 obtain ⟨hl0,hq⟩:=hown
-- a new block
 have grow:∀ (olds:List Value),olds=cs->(Builtin.firstCells i.size m (.slice a m c)).run P w.drew= .ok olds.toArray w.drew->c<m+s.size->fU P (ev n σ) w (.call { callee:=.builtin .append,args:=#[x,y],argTypes:=#[t,u] }) ty K:=λolds ho hrun hg=>by
  subst ho;have hr:=nO (ty:=ty) hS.und hu' hi hz (s:=.slice a m c) rfl hrun hA hg (by omega) (growslice_fits hg hbytes);have hge:=grownCap_ge w (m+s.size) c e;have hmx:=grownCap_le_maxLen w (m+s.size) c e (by unfold maxLen;omega);refine fin _ _ hr (kk _ _ _ ⟨by rw [List.length_append,hl0,hlS,Nat.add_mul],?_⟩ (.inr ⟨bZ _ _,λq hq=>?_⟩))
  .generalize grownCap w (m+s.size) c e=cap at hge hmx ⊢;refine .inr ⟨w.heap.size,(Builtin.zeroCells z.cells (cap-(m+s.size))).toList,by omega,rfl,?_,hge,hmx,?_⟩
   .show (w.heap.push _)[w.heap.size]?=_;rw [Array.getElem?_push_size]
    congr 2
    apply Array.ext';simp
   .simp only [List.length_append,Array.length_toList,size_zeroCells,hS.zs,hl0,hlS,← Nat.add_mul]
    congr 1;omega
  .obtain ⟨_,e'⟩:=hq;injection e' with e';exact e'.symm
 by_cases h0:s.size=0
 .have e0:cT s=[]:=List.eq_nil_of_length_eq_zero (by rw [hlS,h0,Nat.zero_mul])
  have hmc:m<=c:=by rcases hq with ⟨rfl,rfl⟩ | ⟨_,_,_,_,_,h,_⟩ <;> omega
  have hr:=KF (ty:=ty) (base:=a) hS.und hu (by intros;simp) hi (X:=.string s) (w:=w) (by simp [Builtin.lenOf,h0]) (by simp [Builtin.firstCells]) hmc
  refine fin _ _ hr ?_
  have:=kk a c w (by rw [e0,List.append_nil,h0,Nat.add_zero];exact ⟨hl0,hq⟩) (.inl ⟨rfl,rfl,⟨rfl,rfl,rfl,Nat.le_refl _,λ_ _ _=>rfl⟩⟩)
  rwa [h0,Nat.add_zero] at this
 rcases hq with ⟨rfl,rfl⟩ | ⟨b,R,hc0,rfl,hB,hm,hc,hl⟩
 .have hcs:cs=[]:=List.eq_nil_of_length_eq_zero (by simpa using hl0)
  subst hcs
  refine grow [] rfl ?_ (by omega)
  cases a with
  | none=>exact run_firstCells_none _ _ _ _ _
  | some p=>exact run_firstCells_some (P:=P) w.drew i.size 0 p 0 0 [] (by simp) (λj v hv=>by simp at hv)
 .by_cases hroom:m+s.size<=c
  .obtain ⟨w',hp,hrun⟩:=rH (ty:=ty) (off:=0) hS.und hu' hi (sLen:=m) (sCap:=c) hA oneO hroom hB (by rw [hl,hlS,Nat.zero_add,← Nat.add_mul];exact Nat.mul_le_mul_right _ hroom)
   refine fin _ _ hrun (kk _ _ _ ⟨by rw [List.length_append,hl0,hlS,Nat.add_mul],.inr ⟨b,R.drop (cT s).length,hc0,rfl,?_,hroom,hc,?_⟩⟩ (.inl ⟨rfl,rfl,?_⟩))
   .have:=hp.new
    unfold Go.Eng.Blk
    rw [this]
    congr 3
    simp only [aL,Nat.zero_add]
    rw [← hl0,List.take_append_of_le_length (Nat.le_refl _),List.take_length,List.drop_append,List.drop_of_length_le (Nat.le_add_right _ _),List.nil_append,Nat.add_sub_cancel_left,List.append_assoc]
   .have hfit:m * i.size+s.size * i.size<=c * i.size:=by rw [← Nat.add_mul];exact Nat.mul_le_mul_right _ hroom
    rw [List.length_append] at hl
    simp only [List.length_append,List.length_drop,hl0,hlS]
    omega
   .rw [if_neg (by omega)]
    exact ⟨by rw [hp.eq],by rw [hp.eq],by rw [hp.eq],by rw [hp.size];exact Nat.le_refl _,λk hk hne=>hp.old λh=>hne (by rw [h];rfl)⟩
  .refine grow cs rfl ?_ (by omega)
   exact run_firstCells_some (P:=P) w.drew i.size m _ m c cs hl0 (λj v hv=>by
    have hj:=(List.getElem?_eq_some_iff.1 hv).1;rw [bH,Nat.zero_add];have:w.drew.heap=w.heap:=rfl;unfold Go.Eng.Blk at hB;simp only [World.cell?,this,hB,List.getElem?_toArray];rw [List.getElem?_append_left hj]
    exact hv)
end
section
variable {P:Program} {n:Nat} {σ:Nat->Value} {S:Nat->Prop} {w0 w:World} {L:List Ch} {ty t u:TypeId} {x y:Operand} {K:Value->World->Prop} {e k0 bb m c:Nat} {z:Value} {a:Option Addr} {s:ByteArray} {xs:List Nat}
theorem EapS (H:Hp S w0 w L) (i:Nat) (hS:SL P t e 1 bb z) (hu:P.underlying u=some .string) (hs:ev n σ x= .slice a m c) (hi:L[i]?=some (cQ e eY a m c xs)) (hx:ev n σ y= .string s) (hb:(m+s.size) * bb<=140737488355328) (hbb:Nat.blt 0 bb=true)
  (k:∀ a' c' w',Hp S w0 w' (L.set i (cQ e eY a' (m+s.size) c' (xs++bl s)))->K (.slice a' (m+s.size) c') w'):fU P (ev n σ) w (.call { callee:=.builtin .append,args:=#[x,y],argTypes:=#[t,u] }) ty K:=by
 have h1:OwnQ w.heap e 1 a m c (flat eY.enc xs):=H.at i hi;refine Bl hS hu hs hx rfl h1 hb (by simpa [Nat.blt_eq] using hbb) λa' c' w' hO hW=>?_;have hO':OwnQ w'.heap e 1 a' (m+s.size) c' (flat eY.enc (xs++bl s)):=by rw [iZ,List.map_append];rw [iZ] at hO;exact hO
 exact k a' c' w' (H.upd i hi hW.mod (λ_ h=>h) hO' λz hz=>⟨hO'.lt hz,hW.foot hz⟩)
end
end Go.Eng
namespace Go.Eng
open Go.RowKit Go.Lk
def cK (b c:Nat) (xs:List Nat):Ch:=⟨λz=>z=b,λh=>Cells h b 0 (flat eY.enc xs)/\xs.length<=c/\c<=maxLen,λ⟨⟨arr,t,z,h1,h2⟩,h3⟩ hk=>⟨⟨arr,t,z,by rw [hk _ rfl (Array.getElem?_eq_some_iff.1 h1).1];exact h1,h2⟩,h3⟩⟩
theorem cK.srm {b c m:Nat} {xs:List Nat} {h:Array Obj} (hs:(cK b c xs).says h) (hm:m=xs.length):Srm eY h (some ⟨b,0,none⟩) m c xs:=by
 subst hm;exact ⟨by rw [aI eY.len],_,_,rfl,hs.2.1,hs.2.2,.inr ⟨b,0,rfl,hs.1⟩⟩
section
variable {P:Program} {n:Nat} {σ:Nat->Value} {S:Nat->Prop} {w0 w:World} {L:List Ch} {ty t t':TypeId} {x:Operand} {K:Value->World->Prop} {e:Nat} {s:ByteArray}
theorem EcvB {d:TypeDesc} (H:Hp S w0 w L) (hs:P.underlying t=some d) (hd:P.underlying t'=some (.slice e)) (he:P.underlying e=some (.int .u8)) (hx:ev n σ x= .string s) (hl:s.size<=maxLen)
  (k:∀ b c w',Hp S w0 w' (cK b c (bl s)::L)->Ext w w'->K (.slice (some ⟨b,0,none⟩) s.size c) w'):fU P (ev n σ) w (.convert t t' x) ty K:=by
 have hrun:=Lib.run_convert_string_bytes (P:=P) w t t' e s hs hd he;have hal:=mf w e s;have hge:=grownCap_ge w s.size 0 e;have hmx:=grownCap_le_maxLen w s.size 0 e hl;have hx1:Ext w (Lib.bytesWorld w e s):=(Below.refl _ w).drew.trans hal.ext;have hnew:(Lib.bytesWorld w e s).heap[w.heap.size]?=some (.cells (Lib.bytesCells w e s) e ((Lib.bytesCells w e s).size,(Lib.bytesCells w e s).size+1)):=hal.new;refine ⟨.slice (some ⟨w.heap.size,0,none⟩) s.size (grownCap w s.size 0 e),Lib.bytesWorld w e s,k _ _ _ ?_ hx1,.inl λ_ _ _ _=>by simp [execOp,hx,hrun]⟩;refine Hp.app' H (M:=[cK w.heap.size (grownCap w s.size 0 e) (bl s)]) ⟨hx1.mod _,λc hc=>?_,λc hc b hb=>?_,List.pairwise_singleton _ _⟩
 .rw [List.mem_singleton] at hc;subst hc;refine ⟨⟨_,_,_,hnew,λj hj=>?_⟩,by rw [bN];exact hge,hmx⟩;have hjl:j<s.size:=by rw [iZ,List.length_map,bN] at hj;exact hj
  have hcell:(flat eY.enc (bl s))[j]?=some (.int .u8 ((ch s j:Nat):Int)):=by
   rw [iZ,List.getElem?_map,List.getElem?_eq_getElem (by rw [bN];exact hjl),← aF (by rw [bN];exact hjl),MQ hjl];rfl
  have h1:(flat eY.enc (bl s))[j]= .int .u8 ((ch s j:Nat):Int):=by rw [List.getElem?_eq_getElem hj] at hcell;exact Option.some.inj hcell
  have hd:j<s.data.size:=hjl;rw [Nat.zero_add,h1];unfold Lib.bytesCells;rw [Array.getElem?_append_left (by rw [Array.size_map];exact hd),Array.getElem?_map,Array.getElem?_eq_getElem hd];show some (Value.int .u8 _)=some (Value.int .u8 _)
  congr 3
  cases s with
  | mk d=>unfold ch;show d[j].toNat=(d[j]!).toNat;rw [getElem!_pos d j hd]
 .rw [List.mem_singleton] at hc;subst hc;have hb:b=w.heap.size:=hb;subst hb;exact ⟨(Array.getElem?_eq_some_iff.1 hnew).1,.inr (Nat.le_refl _)⟩
variable {y:Operand}
theorem F4 {a s:Nat} {k:IntKind} (hx:ev n σ x= .int .u8 (a:Int)) (hy:ev n σ y= .int k (s:Int)) (hs:s<8):Ex P (ev n σ) w (.binOp .shr t x y t') ty (.int .u8 ((a / 2 ^ s:Nat):Int)):=by
 intro _ _ _ _;have h1:¬ ((s:Int)<0):=by omega
 have h2:min (s:Int).toNat IntKind.u8.bits=s:=by
  have:IntKind.u8.bits=8:=rfl;rw [this,Int.toNat_natCast];omega
 have h3:Int.fdiv (a:Int) (2 ^ s)=((a / 2 ^ s:Nat):Int):=by
  rw [Int.fdiv_eq_ediv_of_nonneg _ (by exact Int.pow_nonneg (by omega))];simp
 have key:(Op.shift .shr .u8 (a:Int) k (s:Int)).run P w= .ok (.int .u8 ((a / 2 ^ s:Nat):Int)) w:=by
  unfold Op.shift;rw [if_neg h1];simp only [h2,h3];rfl
 simp [execOp,hx,hy,eqGuard,binOp,key]
theorem GY {a:Nat} (hx:ev n σ x= .int .u8 (a:Int)) (hy:ev n σ y= .int .u8 (15:Int)) (ha:a<256):Ex P (ev n σ) w (.binOp .and t x y t') ty (.int .u8 ((a % 16:Nat):Int)):=by
 intro _ _ _ _
 have h:IntKind.u8.wrap (((BitVec.ofInt IntKind.u8.bits (a:Int)) &&& (BitVec.ofInt IntKind.u8.bits (15:Int))).toNat:Int)=((a % 16:Nat):Int):=by
  show IntKind.u8.wrap (((BitVec.ofInt 8 (a:Int)) &&& (BitVec.ofInt 8 (15:Int))).toNat:Int)=_;rw [BitVec.toNat_and];have e1:(BitVec.ofInt 8 (a:Int)).toNat=a:=by simp [BitVec.toNat_ofInt];omega
  have e2:(BitVec.ofInt 8 (15:Int)).toNat=2 ^ 4-1:=by decide
  rw [e1,e2,Nat.and_two_pow_sub_one_eq_mod];have:a % 2 ^ 4<128:=by omega
  exact iO this
 simp [execOp,hx,hy,eqGuard,binOp,Op.intBits]
 simpa using h
theorem wM:∀ a:Nat,a<128->Utf8.encode (a:Int)=sN [a]:=by decide +kernel
theorem qA {a:Nat} {k:IntKind} {d:TypeDesc} (hs:P.underlying t=some d) (hd:P.underlying t'=some .string) (hx:ev n σ x= .int k (a:Int)) (ha:a<128):Ex P (ev n σ) w (.convert t t' x) ty (.string (sN [a])):=by
 intro _ _ _ _;have h:=run_convert_int_string (P:=P) w t t' k (a:Int) (by rw [hs];rfl) hd;rw [wM a ha] at h;simp [execOp,hx,h]
end
end Go.Eng
