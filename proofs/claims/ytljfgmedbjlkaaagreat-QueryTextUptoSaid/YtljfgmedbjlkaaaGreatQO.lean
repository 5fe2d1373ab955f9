/- The argument opened: a list of literals. -/
import Derived.Test.YtljfgmedbjlkaaaGreatQZ
import Derived.Test.YtljfgmedbjlkaaaGreatRows
import Derived.WalkKit
import Derived.ProofKit
import Derived.OpenShut
import Derived.SliceStrings
import Derived.ChangeSlices
import Derived.JoinedCond
import Derived.Deep.SlicePairs
import Derived.Deep.DeepHandedRow
import Derived.Test.YtljfgmedbjlkaaaGreatPG
namespace Go.Proofs.YtljfgmedbjlkaaaGreat
open Go.ChangeShapes Go.WideShapes Go.ChangeAt Go.RowKit Go.Eng Go.QP
theorem GI {w:World} {b o:Nat} {cs:List Value} (h0:0<cs.length) (h:∀ j (hj:j<cs.length),w.cell? ⟨b,o+j,none⟩=some cs[j]):Cells w.heap b o cs:=by
 have h1:=h 0 h0;unfold World.cell? at h1;dsimp only at h1
 cases hb:w.heap[b]? with
 | none=>rw [hb] at h1;cases h1
 | some ob=>
  cases ob with
  | cells c e fr=>
   refine ⟨c,e,fr,hb,λj hj=>?_⟩
   have h2:=h j hj
   simpa [World.cell?,hb] using h2
  | _=>rw [hb] at h1;cases h1
theorem xH {H:Type} (d:DataW H):1<=Rows.uptoBulk d:=by
 cases d with
 | lit l=>cases l <;> simp [Rows.uptoBulk]
 | _=>simp [Rows.uptoBulk]
theorem A7 (b o i:Nat):(⟨b,o,none⟩:Addr).add i=⟨b,o+i,none⟩:=by simp [Addr.add]
theorem yq {α:Type} [Inhabited α] {f:Nat->α} {n i:Nat} (h:i<n):el ((List.range n).map f) i=f i:=by simp [el,List.getD_eq_getElem?_getD,h]
section
variable {H:Type} {enc:TypeId × Value->H} {W:World} {u:Value} {y:DataW H × List MemPlace} {fuel:Nat} {cs:List Value}
theorem iy {α:Type} [Inhabited α] {E:En α} {t e:TypeId} {Q:α->Nat->Prop} (hmono:∀ x n m,n<=m->Q x n->Q x m) (ht:Tryz.prog.underlying t=some (.slice e)) (hk:Tryz.prog.cellsOf e=E.k) (hpos:0<E.k)
  (each:∀ {cs:List Value} {y:DataW H × List MemPlace} {fuel:Nat},DataW.trod enc Tryz.prog W 0 (λ_=>true) true fuel e cs=some y->∃ x,cs=E.enc x/\Q x (Rows.uptoBulk y.1))
  (hf:DataW.trod enc Tryz.prog W 0 (λ_=>true) true fuel t [u]=some y) :
  ∃ a c,∃ L:List α,u= .slice a L.length c/\L.length+1<=Rows.uptoBulk y.1/\(∀ i,i<L.length->Q (el L i) (Rows.uptoBulk y.1))/\Srm E W.heap a L.length c L:=by
 rcases Go.Deep.open_slice ht hf with ⟨hcs,hx⟩ | ⟨a,len,cap,m,n,D,Pl,hcs,_,hl,hm,hmm,hx,hcell⟩
 .simp only [List.cons.injEq,and_true] at hcs;subst hcs;exact ⟨none,0,[],rfl,by have:=xH y.1;simpa using this,λi hi=>absurd hi (Nat.not_lt_zero i),Src.nil _ _⟩
 .simp only [List.cons.injEq,and_true] at hcs;subst hcs;subst hx;simp only [if_true] at hmm;subst hmm
  have each:∀ i,i<m->∃ x:α,W.cells? 0 (a.add (i * E.k)) E.k=some (E.enc x)/\Q x (Rows.uptoBulk (D i)):=by
   intro i hi;obtain ⟨cs',h1,h2⟩:=hcell i hi;rw [hk] at h1;obtain ⟨x,e,h3⟩:=each h2;subst e;exact ⟨x,h1,h3⟩
  obtain ⟨q,hq⟩:=Go.Deep.choose_lt each;have hlx:((List.range len).map q).length=len:=by simp
  have hsum:∀ n,n<=len->(∀ i,i<n->Rows.uptoBulk (D i)<=Rows.uptoBulkAll ((List.range n).map D))/\n<=Rows.uptoBulkAll ((List.range n).map D):=by
   intro n
   induction n with
   | zero=>intro _;exact ⟨λi hi=>by omega,Nat.zero_le _⟩
   | succ n ih=>
    intro hn
    obtain ⟨i1,i2⟩:=ih (by omega)
    have hs:Rows.uptoBulkAll ((List.range (n+1)).map D)=Rows.uptoBulkAll ((List.range n).map D)+Rows.uptoBulk (D n):=by
     rw [List.range_succ,List.map_append];generalize (List.range n).map D=l
     induction l with
     | nil=>simp [Rows.uptoBulkAll]
     | cons x r ih2=>simp only [List.cons_append,Rows.uptoBulkAll];rw [ih2];omega
    rw [hs]
    refine ⟨λi hi=>?_,by have:=xH (D n);omega⟩
    by_cases e:i=n
    .subst e;omega
    .have:=i1 i (by omega);omega
  obtain ⟨hs1,hs2⟩:=hsum len (Nat.le_refl _);refine ⟨some a,m,(List.range len).map q,by rw [hlx],?_,λi hi=>?_,⟨by rw [aI E.len],some a,m,rfl,by rw [hlx];exact hl,hm,?_⟩⟩
  .rw [hlx];simp only [Rows.uptoBulk];omega
  .rw [hlx] at hi;rw [yq hi];have h1:=hs1 i hi;have h2:=hq i (by omega);exact hmono _ _ _ (by simp only [Rows.uptoBulk];omega) h2.2
  .by_cases h0:len=0
   .exact .inl (by rw [hlx];exact h0)
   .obtain ⟨b,off,spot⟩:=a
    have one:∀ i,i<len->∀ r (hr:r<E.k),W.cell? ((⟨b,off,spot⟩:Addr).add (i * E.k+r))=(E.enc (q i))[r]? :=by
     intro i hi r hr;obtain ⟨_,hlen,hc⟩:=World.cells?_some (hq i (by omega)).1;have:=hc r hr;rw [Go.Deep.add_add] at this;rw [this]
    have hspot:spot=none:=by
     have h5:=one 0 (by omega) 0 hpos;have hlen:=E.len (q 0);rw [List.getElem?_eq_getElem (by omega)] at h5;simp [Addr.add] at h5;exact World.cell?_spot h5
    subst hspot;refine .inr ⟨b,off,rfl,GI (by rw [aI E.len,hlx];exact Nat.mul_pos (by omega) hpos) λj hj=>?_⟩;have hj':j<len * E.k:=by rw [aI E.len,hlx] at hj;exact hj
    have hdm:=Nat.div_add_mod j E.k;have hd:j / E.k<len:=Nat.div_lt_of_lt_mul (by rw [Nat.mul_comm];exact hj');have h1:=one (j / E.k) hd (j % E.k) (Nat.mod_lt _ hpos);have e5:j / E.k * E.k+j % E.k=j:=by rw [Nat.mul_comm];exact hdm
    rw [A7,e5] at h1;rw [h1];have h2:=jy? E.len ((List.range len).map q) (j / E.k) (j % E.k) (by rw [hlx];exact hd) (Nat.mod_lt _ hpos);rw [e5,yq hd,List.getElem?_eq_getElem hj] at h2;exact h2.symm
theorem Rk:Tryz.prog.cellsOf 9=1:=by kernel_rfl
theorem Tj:Tryz.prog.cellsOf 4=1:=by kernel_rfl
theorem Su:Tryz.prog.cellsOf 30=1:=by kernel_rfl
theorem SE:Tryz.prog.cellsOf 33=1:=by kernel_rfl
theorem N0:Tryz.prog.cellsOf 32=2:=by kernel_rfl
theorem OU:Tryz.prog.cellsOf 35=2:=by kernel_rfl
theorem NJ:Tryz.prog.cellsOf 37=7:=by kernel_rfl
theorem lQ (s:ByteArray):s.data.toList.length=s.size:=by rw [Array.length_toList];rfl
set_option maxRecDepth 100000 in
theorem pq (hf:DataW.trod enc Tryz.prog W 0 (λ_=>true) true fuel 35 cs=some y):∃ x:Tm,cs=eT.enc x/\x.2.size+1<=Rows.uptoBulk y.1:=by
 obtain ⟨xs,k,hk,hxy,hcl,hxl,hq⟩:=DataW.trod_struct Tryz.underlying35 hf;rw [OU] at hcl
 match xs,hxl,cs,hcl with
 | [y0,y1],_,[v0,v1],_=>
  have g0:=hq 0 _ rfl
  have g1:=hq 1 _ rfl
  simp [Tj,Rk] at g0 g1
  obtain ⟨b,e0,_⟩:=DataW.trod_bool Tryz.underlying4 g0
  obtain ⟨s,e1,z1,_⟩:=DataW.trod_string Tryz.underlying9 g1
  simp only [List.cons.injEq,and_true] at e0 e1
  subst e0 e1
  have hD:=congrArg Prod.fst hxy
  have hb:Rows.uptoBulk y1.1<=Rows.uptoBulk y.1:=by rw [hD];simp only [List.map_cons,List.map_nil,Rows.uptoBulk,Rows.uptoBulkAll];omega
  rw [z1] at hb
  simp only [Rows.uptoBulk,lQ] at hb
  exact ⟨(b,s),by simp,hb⟩
set_option maxRecDepth 100000 in
theorem vk (hf:DataW.trod enc Tryz.prog W 0 (λ_=>true) true fuel 32 cs=some y) :
  ∃ (p:ByteArray) (a:Option Addr) (c:Nat) (xs:List Tm),cs=[.string p,.slice a xs.length c]/\p.size+1<=Rows.uptoBulk y.1/\xs.length+1<=Rows.uptoBulk y.1/\(∀ i,i<xs.length->(el xs i).2.size+1<=Rows.uptoBulk y.1)/\Srm eT W.heap a xs.length c xs:=by
 obtain ⟨xs,k,hk,hxy,hcl,hxl,hq⟩:=DataW.trod_struct Tryz.underlying32 hf;rw [N0] at hcl
 match xs,hxl,cs,hcl with
 | [y0,y1],_,[v0,v1],_=>
  have g0:=hq 0 _ rfl
  have g1:=hq 1 _ rfl
  simp [Rk,Su] at g0 g1
  obtain ⟨s,e0,z0,_⟩:=DataW.trod_string Tryz.underlying9 g0
  simp only [List.cons.injEq,and_true] at e0
  subst e0
  obtain ⟨a,c,L,rfl,h1,h2,h3⟩:=iy (E:=eT) (Q:=λx n=>x.2.size+1<=n) (λ_ _ _ h h'=>Nat.le_trans h' h) Tryz.underlying30 OU (by decide) (λh=>pq h) g1
  have hD:=congrArg Prod.fst hxy
  have hb:Rows.uptoBulk y0.1<=Rows.uptoBulk y.1/\Rows.uptoBulk y1.1<=Rows.uptoBulk y.1:=by rw [hD];simp only [List.map_cons,List.map_nil,Rows.uptoBulk,Rows.uptoBulkAll];omega
  have hs:s.size+1<=Rows.uptoBulk y0.1:=by rw [z0];simp only [Rows.uptoBulk,lQ];exact Nat.le_refl _
  exact ⟨s,a,c,L,rfl,by omega,by omega,λi hi=>by have:=h2 i hi;omega,h3⟩
set_option maxRecDepth 100000 in
theorem xD (hf:DataW.trod enc Tryz.prog W 0 (λ_=>true) true fuel 37 cs=some y) :
  ∃ x:Rw,cs=eL.enc x/\(Rows.uptoBulk y.1<=1048576->lZ x.1)/\lY W.heap x:=by
 obtain ⟨xs,k,hk,hxy,hcl,hxl,hq⟩:=DataW.trod_struct Tryz.underlying37 hf;rw [NJ] at hcl
 match xs,hxl,cs,hcl with
 | [y0,y1,y2,y3],_,[v0,v1,v2,v3,v4,v5,v6],_=>
  have g0:=hq 0 _ rfl
  have g1:=hq 1 _ rfl
  have g2:=hq 2 _ rfl
  have g3:=hq 3 _ rfl
  simp [SE,N0,OU] at g0 g1 g2 g3
  obtain ⟨n,e0,_,_⟩:=DataW.trod_int Tryz.underlying33 g0
  simp only [List.cons.injEq,and_true] at e0
  subst e0
  obtain ⟨p,a,c,ts,e1,b1,b2,b3,m1⟩:=vk g1
  simp only [List.cons.injEq,and_true] at e1
  obtain ⟨rfl,rfl⟩:=e1
  obtain ⟨l,e2,b4⟩:=pq g2
  obtain ⟨r,e3,b5⟩:=pq g3
  simp only [List.cons.injEq,and_true] at e2 e3
  obtain ⟨rfl,rfl⟩:=e2
  obtain ⟨rfl,rfl⟩:=e3
  have hD:=congrArg Prod.fst hxy
  have hb:Rows.uptoBulk y1.1<=Rows.uptoBulk y.1/\Rows.uptoBulk y2.1<=Rows.uptoBulk y.1/\Rows.uptoBulk y3.1<=Rows.uptoBulk y.1:=by rw [hD];simp only [List.map_cons,List.map_nil,Rows.uptoBulk,Rows.uptoBulkAll];omega
  exact ⟨(⟨n,p,ts,l,r⟩,(a,c)),rfl,λh=>⟨by show p.size<=_;omega,by show ts.length<=_;omega,λj hj=>by have:=b3 j hj;show (el ts j).2.size<=_;omega,by show l.2.size<=_;omega,by show r.2.size<=_;omega⟩,m1⟩
theorem Fp (hf:DataW.trod enc Tryz.prog W 0 (λ_=>true) true fuel 23 [u]=some y) (hB:Rows.uptoBulk y.1<=1048576) :
  ∃ a c,∃ L:List Rw,u= .slice a L.length c/\L.length+1<=Rows.uptoBulk y.1/\(∀ i,i<L.length->lZ (el L i).1)/\Lits W.heap a L.length c L:=by
 obtain ⟨a,c,L,h1,h2,h3,h4⟩:=iy (E:=eL) (Q:=λx n=>(n<=1048576->lZ x.1)/\lY W.heap x) (λ_ _ _ h h'=>⟨λh2=>h'.1 (Nat.le_trans h h2),h'.2⟩) Tryz.underlying23 NJ (by decide) (λh=>xD h) hf;exact ⟨a,c,L,h1,h2,λi hi=>(h3 i hi).1 hB,h4,λi hi=>(h3 i hi).2⟩
end
theorem SS:Tryz.prog.cellsOf 3=1:=by kernel_rfl
theorem SC:Tryz.prog.cellsOf 23=1:=by kernel_rfl
theorem RJ:Tryz.prog.cellsOf 39=1:=by kernel_rfl
theorem RH:Tryz.prog.cellsOf 40=1:=by kernel_rfl
theorem RY:Tryz.prog.cellsOf 41=1:=by kernel_rfl
theorem QV:Tryz.prog.cellsOf 60=3:=by kernel_rfl
theorem Qm:Tryz.prog.cellsOf 83=3:=by kernel_rfl
theorem QD:Tryz.prog.cellsOf 85=2:=by kernel_rfl
theorem Sn:Tryz.prog.cellsOf 43=3:=by kernel_rfl
section
variable {H:Type} {enc:TypeId × Value->H} {W:World} {u:Value} {y:DataW H × List MemPlace} {fuel:Nat} {cs:List Value}
set_option maxRecDepth 100000 in
theorem GS (hf:DataW.trod enc Tryz.prog W 0 (λ_=>true) true fuel 83 cs=some y):∃ x:KW,cs=eIn.enc x/\x.1.size+1<=Rows.uptoBulk y.1/\x.2.2.size+1<=Rows.uptoBulk y.1:=by
 obtain ⟨xs,k,hk,hxy,hcl,hxl,hq⟩:=DataW.trod_struct Tryz.underlying83 hf;rw [Qm] at hcl
 match xs,hxl,cs,hcl with
 | [y0,y1,y2],_,[v0,v1,v2],_=>
  have g0:=hq 0 _ rfl
  have g1:=hq 1 _ rfl
  have g2:=hq 2 _ rfl
  simp [SS,Rk] at g0 g1 g2
  obtain ⟨s,e0,z0,_⟩:=DataW.trod_string Tryz.underlying9 g0
  obtain ⟨n,e1,_,_⟩:=DataW.trod_int Tryz.underlying3 g1
  obtain ⟨t,e2,z2,_⟩:=DataW.trod_string Tryz.underlying9 g2
  simp only [List.cons.injEq,and_true] at e0 e1 e2
  subst e0 e1 e2
  have hD:=congrArg Prod.fst hxy
  have hb:Rows.uptoBulk y0.1<=Rows.uptoBulk y.1/\Rows.uptoBulk y2.1<=Rows.uptoBulk y.1:=by rw [hD];simp only [List.map_cons,List.map_nil,Rows.uptoBulk,Rows.uptoBulkAll];omega
  rw [z0,z2] at hb
  simp only [Rows.uptoBulk,lQ] at hb
  exact ⟨(s,n,t),rfl,hb.1,hb.2⟩
set_option maxRecDepth 100000 in
theorem DL (hf:DataW.trod enc Tryz.prog W 0 (λ_=>true) true fuel 85 cs=some y):∃ x:MF,cs=eOu.enc x/\x.1.size+1<=Rows.uptoBulk y.1:=by
 obtain ⟨xs,k,hk,hxy,hcl,hxl,hq⟩:=DataW.trod_struct Tryz.underlying85 hf;rw [QD] at hcl
 match xs,hxl,cs,hcl with
 | [y0,y1],_,[v0,v1],_=>
  have g0:=hq 0 _ rfl
  have g1:=hq 1 _ rfl
  simp [SS,Rk] at g0 g1
  obtain ⟨s,e0,z0,_⟩:=DataW.trod_string Tryz.underlying9 g0
  obtain ⟨n,e1,_,_⟩:=DataW.trod_int Tryz.underlying3 g1
  simp only [List.cons.injEq,and_true] at e0 e1
  subst e0 e1
  have hD:=congrArg Prod.fst hxy
  have hb:Rows.uptoBulk y0.1<=Rows.uptoBulk y.1:=by rw [hD];simp only [List.map_cons,List.map_nil,Rows.uptoBulk,Rows.uptoBulkAll];omega
  rw [z0] at hb
  simp only [Rows.uptoBulk,lQ] at hb
  exact ⟨(s,n),rfl,hb⟩
set_option maxRecDepth 100000 in
theorem Fh (hf:DataW.trod enc Tryz.prog W 0 (λ_=>true) true fuel 60 cs=some y):∃ x:Rx,cs=eRu.enc x/\(Rows.uptoBulk y.1<=1048576->RuB x.r)/\RuM W.heap x:=by
 obtain ⟨xs,k,hk,hxy,hcl,hxl,hq⟩:=DataW.trod_struct Tryz.underlying60 hf;rw [QV] at hcl
 match xs,hxl,cs,hcl with
 | [y0,y1],_,[v0,v1,v2],_=>
  have g0:=hq 0 _ rfl
  have g1:=hq 1 _ rfl
  simp [N0,SC] at g0 g1
  obtain ⟨p,a,c,ts,e1,b1,b2,b3,m1⟩:=vk g0
  simp only [List.cons.injEq,and_true] at e1
  obtain ⟨rfl,rfl⟩:=e1
  obtain ⟨ba,bc,L,rfl,h2,h3,h4⟩:=iy (E:=eL) (Q:=λx n=>(n<=1048576->lZ x.1)/\lY W.heap x) (λ_ _ _ h h'=>⟨λh2=>h'.1 (Nat.le_trans h h2),h'.2⟩) Tryz.underlying23 NJ (by decide) (λh=>xD h) g1
  have hD:=congrArg Prod.fst hxy
  have hb:Rows.uptoBulk y0.1<=Rows.uptoBulk y.1/\Rows.uptoBulk y1.1<=Rows.uptoBulk y.1:=by rw [hD];simp only [List.map_cons,List.map_nil,Rows.uptoBulk,Rows.uptoBulkAll];omega
  refine ⟨⟨p,ts,L,a,c,ba,bc⟩,rfl,λh=>⟨by show p.size<=_;omega,by show ts.length<=_;omega,λt ht=>?_,by show (L.map (·.1)).length<=_;rw [List.length_map];omega,λl hl=>?_⟩,m1,h4,λi hi=>(h3 i hi).2⟩
  .obtain ⟨j,hj,rfl⟩:=aU (xs:=ts) ht
   have:=b3 j hj
   show (el ts j).2.size<=_
   omega
  .obtain ⟨z,hz,rfl⟩:=List.mem_map.1 hl
   obtain ⟨j,hj,rfl⟩:=aU hz
   exact (h3 j hj).1 (by omega)
set_option maxRecDepth 100000 in
theorem E7 (hf:DataW.trod enc Tryz.prog W 0 (λ_=>true) true fuel 43 cs=some y):∃ x:Px,cs=x.cells/\(Rows.uptoBulk y.1<=1048576->PgB x.p)/\PxM W.heap x:=by
 obtain ⟨xs,k,hk,hxy,hcl,hxl,hq⟩:=DataW.trod_struct Tryz.underlying43 hf;rw [Sn] at hcl
 match xs,hxl,cs,hcl with
 | [y0,y1,y2],_,[v0,v1,v2],_=>
  have g0:=hq 0 _ rfl
  have g1:=hq 1 _ rfl
  have g2:=hq 2 _ rfl
  simp [RJ,RH,RY] at g0 g1 g2
  obtain ⟨ia,ic,I,rfl,i2,i3,i4⟩:=iy (E:=eIn) (Q:=λx n=>x.1.size+1<=n/\x.2.2.size+1<=n) (λ_ _ _ h h'=>⟨Nat.le_trans h'.1 h,Nat.le_trans h'.2 h⟩) Tryz.underlying39 Qm (by decide) (λh=>GS h) g0
  obtain ⟨oa,oc,O,rfl,o2,o3,o4⟩:=iy (E:=eOu) (Q:=λx n=>x.1.size+1<=n) (λ_ _ _ h h'=>Nat.le_trans h' h) Tryz.underlying40 QD (by decide) (λh=>DL h) g1
  obtain ⟨ra,rc,R,rfl,r2,r3,r4⟩:=iy (E:=eRu) (Q:=λx n=>(n<=1048576->RuB x.r)/\RuM W.heap x) (λ_ _ _ h h'=>⟨λh2=>h'.1 (Nat.le_trans h h2),h'.2⟩) Tryz.underlying41 QV (by decide) (λh=>Fh h) g2
  have hD:=congrArg Prod.fst hxy
  have hb:Rows.uptoBulk y0.1<=Rows.uptoBulk y.1/\Rows.uptoBulk y1.1<=Rows.uptoBulk y.1/\Rows.uptoBulk y2.1<=Rows.uptoBulk y.1:=by rw [hD];simp only [List.map_cons,List.map_nil,Rows.uptoBulk,Rows.uptoBulkAll];omega
  refine ⟨⟨I,ia,ic,O,oa,oc,R,ra,rc⟩,rfl,λh=>⟨by show I.length<=_;omega,by show O.length<=_;omega,by show (R.map Rx.r).length<=_;rw [List.length_map];omega,λx hx=>?_,λx hx=>?_,λr hr=>?_⟩,i4,o4,r4,λi hi=>(r3 i hi).2⟩
  .obtain ⟨j,hj,rfl⟩:=aU (xs:=I) hx
   have:=i3 j hj
   omega
  .obtain ⟨j,hj,rfl⟩:=aU (xs:=O) hx
   have:=o3 j hj
   omega
  .obtain ⟨z,hz,rfl⟩:=List.mem_map.1 hr
   obtain ⟨j,hj,rfl⟩:=aU hz
   exact (r3 j hj).1 (by omega)
end
end Go.Proofs.YtljfgmedbjlkaaaGreat
