/- A lean reckoner for closed runs: locks, builders; blocks that are given up. Over any program. -/
import Derived.Test.YtljfgmedbjlkaaaGreatLkD
import Derived.Test.YtljfgmedbjlkaaaGreatLkO
import Derived.Conc.MuLone
import Derived.Lib.UnsafeStr
import Derived.Laws.CopyRow
import Derived.Laws.IdiomCopy
import Derived.Lib.Bytealg
namespace Go.Lk
open Go.Eng Go.RowKit
theorem setCell_pt {w:World} {b o:Nat} {v:Value} {cs:List Value} {T:TypeId} (hb:Go.Eng.Blk w.heap b cs T) (ho:o<cs.length):Pt w (w.setCell ⟨b,o,none⟩ v) b (.cells (aL cs o [v]).toArray T (0,0)):=by
 have hset:(w.setCell ⟨b,o,none⟩ v).heap[b]?=some (.cells (aL cs o [v]).toArray T (0,0)):=by
  simp only [World.setCell,Array.getElem?_modify,if_true];unfold Go.Eng.Blk at hb;rw [hb];simp [aL,List.set_eq_take_append_cons_drop,ho]
 refine ⟨hb.lt,?_⟩
 have:(w.setCell ⟨b,o,none⟩ v).heap=w.heap.setIfInBounds b (.cells (aL cs o [v]).toArray T (0,0)):=by
  apply Array.ext_getElem?;intro k
  by_cases hk:b=k
  .subst hk;rw [Array.getElem?_setIfInBounds_self,if_pos hb.lt];exact hset
  .rw [Array.getElem?_setIfInBounds_ne hk];simp only [World.setCell,Array.getElem?_modify,hk,if_false]
 rw [← this];rfl
section
variable {w0:Base} {w:World} {ρ:Ren} {h:T Blk} {n:P} {Pr:Program}
theorem Rh.spoil (H:Rh w0 ρ h n w) {b:P} {B:Blk} {L:Loc} (hb:T.get b h=some B) (hL:ρ b=some L) {w':World} {o:Obj} (hp:Pt w w' L.c o):Rh w0 ρ (T.put none b h) n w':=by
 have hsafe:=H.safe b B L hb hL;refine ⟨hp.below H.old (H.new b L hL).1,λc o' hk=>?_,λb' B' M hb' hM=>?_,λb' M hb'=>?_,λb' B' M hb' hM=>?_,λb1 b2 B1 B2 L1 L2 h1 h2 h3 h4 h5=>?_⟩
 .have hne:c≠L.c:=λe=>by subst e;rw [hsafe] at hk;cases hk
  rw [hp.old hne];exact H.kept c o' hk
 .rw [T.get_put] at hb'
  split at hb'
  .cases hb'
  .exact H.safe b' B' M hb' hM
 .rw [hp.size];exact H.new b' M hb'
 .rw [T.get_put] at hb'
  split at hb'
  .cases hb'
  .rename_i e;have hne:M.c≠L.c:=λhc=>e (H.apart b' b _ _ M L hb' hb hM hL hc);rw [hp.old hne];exact H.live b' B' M hb' hM
 .rw [T.get_put] at h1 h2
  split at h1
  .cases h1
  .split at h2
   .cases h2
   .exact H.apart b1 b2 B1 B2 L1 L2 h1 h2 h3 h4 h5
theorem qM {v:V} {args:Array Value} (hv:Rvs ρ [v] args.toList):∃ x,args=#[x]/\Rv ρ v x:=by
 simp only [Rvs] at hv;obtain ⟨x,r,h1,h2,rfl⟩:=hv;exact ⟨x,by rw [← Array.toArray_toList (xs:=args),h1],h2⟩
theorem iN (H:Rh w0 ρ h n w) {b:P} {i j:Nat} {L:Loc} (hL:ρ b=some L) {v:V} (e:lw b i j h=some v) (hn:∀ c,v≠.int .u8 c):l8 1 b i j h=some [v]/\∃ u,w.cell? ⟨L.c,(L.o+i) * L.k+j,none⟩=some u/\Rv ρ v u:=by
 rcases sK e with e | ⟨_,c,_,_,_,rfl⟩
 .refine ⟨e,?_⟩;obtain ⟨cs,hl,hc,hr⟩:=H.read hL e;simp only [Rvs] at hr;obtain ⟨u,r,rfl,hu,rfl⟩:=hr;exact ⟨u,by have:=hc.cell 0 (by simp);simpa using this,hu⟩
 .exact absurd rfl (hn _)
abbrev fO (Pr:Program) (f:FuncId) (g:BF):Prop:=∀ as h n res,g as h n=some res->∀ w0 ρ w args,Rh w0 ρ h n w->Rvs ρ as args.toList->o7 Pr f args w (RQ w0 ρ res)
theorem xJ {f:FuncId} {a b:Int} (hcf:CF Pr f) (hc:∀ (x:Addr) (w:World),w.cell? x=some (.int .i32 a)->w.frozen? x=false->Calls Pr f #[.pointer (some x)] w λe w'=>e= .returned (.tuple #[])/\w'=w.setCell x (.int .i32 b)):fO Pr f (yN a b):=by
 intro as h n res e w0 ρ w args H hv
 cases as with
 | nil=>cases e
 | cons p r=>
  cases r with
  | cons=>cases e
  | nil=>
   replace e:V.onPtr (λl i j=>on (lw l i j h) (V.onInt λk x=>Bool.rec none (Bool.rec none (on (jh [.int .i32 b] l i j h) λh'=>some (.tup [],h',n)) (JH x a)) (Nat.beq (aM k) 2))) p=some res:=e
   simp only [bE,ah,aK,aj] at e
   obtain ⟨l,i,j,rfl,v,hcell,k,x,rfl,hk,hx,h',hw,e⟩:=e
   cases e
   have hk:k= .i32:=cu (j:=.i32) hk
   subst hk
   rw [tO] at hx
   have hx:=of_decide_eq_true hx
   subst hx
   obtain ⟨pv,rfl,hp⟩:=qM hv
   simp only [Rv] at hp
   obtain ⟨L,hL,rfl⟩:=hp
   obtain ⟨hrd,u,hcu,hu⟩:=iN H hL hcell (λc e=>by cases e)
   simp only [Rv] at hu
   subst hu
   obtain ⟨arr,t,hB,hfit,hn⟩:=H.write hL hw (vs:=[.int .i32 b]) (by simp only [Rvs,Rv];exact ⟨_,_,rfl,rfl,rfl⟩)
   have hf:w.frozen? ⟨L.c,(L.o+i) * L.k+j,none⟩=false:=by simp only [World.frozen?];rw [hB];simp
   refine .inl ⟨hcf,callsIn_wide.2 ((hc _ w hcu hf).mono λe' w' ⟨he,hw'⟩=>?_)⟩
   subst he hw'
   exact ⟨.tuple #[],ρ,rfl,.refl _,hn _ (setCell_pt hB (by simp only [List.length_cons,List.length_nil] at hfit;omega)),by simp only [Rv];exact ⟨#[],rfl,by simp only [Rvs]⟩⟩
theorem OC (hm:Pr.follows .mixedOrders=true) {hk:qg} (hh:HookOK Pr hk) (d:Nat):RunOK Pr (ul Pr hk d):=
 uG hh (λm c=>(GH ⟨λid ops draw=>uC hm m id ops draw,λg ps asg body=>pW g ps asg body⟩ c).1) (λm c=>(GH ⟨λid ops draw=>uC hm m id ops draw,λg ps asg body=>pW g ps asg body⟩ c).1) (λf fn _ as h n res e=>by cases e) d
def Qx (Pr:Program) (x:Nat × Hk):Prop:=(∀ g,x.2= .fn g->fO Pr x.1 g)/\(∀ g,x.2= .pf g->fO Pr x.1 g)/\∀ k,x.2= .dn k->QL Pr x.1 k
theorem gZ {f:FuncId} {x:Hk}:∀ (l:List (Nat × Hk)),nV l f=some x->∃ y ∈ l,y.1=f/\y.2=x
 | [],e=>by cases e
 | y::l,e=>by
  replace e:(Bool.rec (nV l f) (some y.2) (Nat.beq y.1 f):Option Hk)=some x:=e
  cases hb:Nat.beq y.1 f with
  | false=>
   rw [hb] at e
   obtain ⟨z,hz,h⟩:=gZ l e
   exact ⟨z,List.mem_cons_of_mem _ hz,h⟩
  | true=>
   rw [hb] at e
   exact ⟨y,List.mem_cons_self ..,Nat.eq_of_beq_eq_true hb,Option.some.inj e⟩
theorem zz (l:List (Nat × Hk)) (H:∀ x ∈ l,Qx Pr x):HookOK Pr (nV l) where
 fn f g e:=by
  obtain ⟨y,hy,rfl,h⟩:=gZ l e;exact (H y hy).1 g h
 pf f g e:=by
  obtain ⟨y,hy,rfl,h⟩:=gZ l e;exact (H y hy).2.1 g h
 dn f k e:=by
  obtain ⟨y,hy,rfl,h⟩:=gZ l e;exact (H y hy).2.2 k h
theorem lG {f:FuncId} {g:BF} (h:fO Pr f g):Qx Pr (f,.fn g):=⟨λg e=>by cases e;exact h,λg e=>(by cases e),λk e=>(by cases e)⟩
theorem Jk (hm:Pr.follows .mixedOrders=true) {hk:qg} (hh:HookOK Pr hk) {d:Nat} {f:FuncId} {as:List V} {res:jI} (e:ul Pr hk d (.call f as) .e .z=some res) (hf:(dG Pr f).isSome=true) (w:World) {args:Array Value} (hv:Rvs (λ_=>none) as args.toList) :
  Calls Pr f args w λe w'=>∃ x ρ,e= .returned x/\Below w.heap.size w w'/\Rv ρ res.1 x:=by
 have H0:Rh ⟨w,λ_=>none⟩ (λ_=>none) (.e:T Blk) .z w:=⟨.refl _ _,λc o e=>(by cases e),λb B L _ e=>(by cases e),λb L e=>(by cases e),λb B L _ e=>(by cases e),λb b' B B' L L' _ _ e=>(by cases e)⟩
 rcases (OC hm hh d).call f as _ _ _ e ⟨w,λ_=>none⟩ (λ_=>none) w args H0 hv with ⟨_,hc⟩ | ⟨hn,_⟩
 .exact (callsIn_wide.1 hc).mono λe w' ⟨x,ρ',h1,_,h2,h3⟩=>⟨x,ρ',h1,h2.old,h3⟩
 .rw [hn] at hf;cases hf
end
end Go.Lk
namespace Go.Lk
open Go.Eng Go.RowKit
theorem zA {q:V} {e:Bool} (h:eqD.onP (some true) (some false) q=some e):q= .pnil/\e=true\/∃ b i j,q= .ptr b i j/\e=false:=by
 cases q <;> first | (cases h;done) | (cases h;exact .inl ⟨rfl,rfl⟩) | (cases h;exact .inr ⟨_,_,_,rfl,rfl⟩)
theorem pt_frozen {w:World} {g:Nat} {arr:Array Value} {t:TypeId} {fr:Nat × Nat} (hg:w.heap[g]?=some (.cells arr t fr)) (q len:Nat):∃ o,Pt w (w.freeze ⟨g,q,none⟩ len) g o:=by
 have hlt:=(Array.getElem?_eq_some_iff.1 hg).1
 have self:∀ o,w.heap[g]?=some o->w.heap.setIfInBounds g o=w.heap:=λo ho=>by
  apply Array.ext_getElem?;intro k
  by_cases hk:g=k
  .subst hk;rw [Array.getElem?_setIfInBounds_self,if_pos hlt,ho]
  .rw [Array.getElem?_setIfInBounds_ne hk]
 unfold World.freeze
 split
 .exact ⟨_,hlt,by rw [self _ hg]⟩
 .have key:∀ f:Obj->Obj,∃ o,Pt w { w with heap:=w.heap.modify g f } g o:=λf=>by
   refine ⟨(w.heap.modify g f)[g]'(by simpa using hlt),hlt,?_⟩
   congr 1
   apply Array.ext_getElem?;intro k
   by_cases hk:g=k
   .subst hk;rw [Array.getElem?_setIfInBounds_self,if_pos hlt];rw [Array.getElem?_eq_getElem (by simpa using hlt)]
   .rw [Array.getElem?_setIfInBounds_ne hk];simp only [Array.getElem?_modify,hk,if_false]
  exact key _
section
variable {Pr:Program}
theorem ut {f:FuncId} {tB:Nat} (hcf:CF Pr f)
  (hfresh:∀ (c:Nat) (w:World),w.cell? ⟨c,0,none⟩=some (.pointer none)->w.shape? c=some (tB,2)->w.frozen? ⟨c,0,none⟩=false->Calls Pr f #[.pointer (some ⟨c,0,none⟩)] w λe w'=>e= .returned (.tuple #[])/\w'=w.setCell ⟨c,0,none⟩ (.pointer (some ⟨c,0,none⟩)))
  (hused:∀ (c:Nat) (w:World),w.cell? ⟨c,0,none⟩=some (.pointer (some ⟨c,0,none⟩))->Calls Pr f #[.pointer (some ⟨c,0,none⟩)] w λe w'=>e= .returned (.tuple #[])/\w'=w):fO Pr f (mH tB):=by
 intro as h n res e w0 ρ w args H hv
 cases as with
 | nil=>cases e
 | cons p r=>
  cases r with
  | cons=>cases e
  | nil=>
   replace e:(V.onPtr (λl i j=>Bool.rec none (Bool.rec none (on (T.get l h) (Blk.onRows λt k op rs=>Bool.rec none (Bool.rec none (Bool.rec (Bool.rec none (on (lw l 0 0 h) λq=>on (eqD.onP (some true) (some false) q) λe=>
    Bool.rec (V.onPtr (λl' i' j'=>Bool.rec none (Bool.rec none (Bool.rec none (some (.tup [],h,n)) (Nat.beq j' 0)) (Nat.beq i' 0)) (P.beq l l')) q) (on (jh [p] l 0 0 h) λh'=>some (.tup [],h',n)) e) (Nat.beq (bR rs) 1)) none op) (Nat.beq k 2)) (Nat.beq t tB))) (Nat.beq j 0)) (Nat.beq i 0)) p:Option jI)=some res:=e
   simp only [bE,ah,dQ,aj,jq] at e
   obtain ⟨l,i,j,rfl,hi,hj,B,hB,t,k,op,rs,rfl,ht,hk,hop,hlen,q,hq,e0,he0,e⟩:=e
   have hi:=Nat.eq_of_beq_eq_true hi
   have hj:=Nat.eq_of_beq_eq_true hj
   have ht:=Nat.eq_of_beq_eq_true ht
   have hk:=Nat.eq_of_beq_eq_true hk
   have hlen:=Nat.eq_of_beq_eq_true hlen
   subst hi hj ht hk hop
   rw [bO] at hlen
   obtain ⟨pv,rfl,hp⟩:=qM hv
   have hp0:=hp
   simp only [Rv] at hp
   obtain ⟨L,hL,rfl⟩:=hp
   obtain ⟨hk,arr,ho,hs,hl,hc,hr⟩:=H.live l _ L hB hL
   obtain ⟨hc,h0⟩:=hc rfl
   have hadr:(L.o+0) * L.k+0=0:=by rw [h0];simp
   rw [hadr] at hp0 ⊢
   have hshape:w.shape? L.c=some (t,2):=by
    unfold World.shape?;rw [ho];have:arr.size=2:=by rw [hs,h0,← hc,hlen]
    simp [this]
   have hf:w.frozen? ⟨L.c,0,none⟩=false:=by simp only [World.frozen?];rw [ho];simp
   rcases zA he0 with ⟨hq1,he1⟩ | ⟨l',i',j',hq1,he1⟩
   .subst hq1
    subst he1
    replace e:(on (jh [.ptr l 0 0] l 0 0 h) λh'=>some ((.tup [],h',n):jI))=some res:=e
    rw [ah] at e
    obtain ⟨h',hw,e⟩:=e
    cases e
    obtain ⟨_,u,hcu,hu⟩:=iN H hL hq (λc e=>by cases e)
    rw [hadr] at hcu
    simp only [Rv] at hu
    subst hu
    obtain ⟨arr',t',hB',hfit,hn⟩:=H.write hL hw (vs:=[.pointer (some ⟨L.c,0,none⟩)]) (by simp only [Rvs];exact ⟨_,_,rfl,hp0,rfl⟩)
    rw [hadr] at hfit hn
    refine .inl ⟨hcf,callsIn_wide.2 ((hfresh _ w hcu hshape hf).mono λe' w' ⟨he,hw'⟩=>?_)⟩
    subst he hw'
    exact ⟨.tuple #[],ρ,rfl,.refl _,hn _ (setCell_pt hB' (by simp only [List.length_cons,List.length_nil] at hfit;omega)),by simp only [Rv];exact ⟨#[],rfl,by simp only [Rvs]⟩⟩
   .subst hq1
    subst he1
    replace e:(V.onPtr (λl' i' j'=>Bool.rec none (Bool.rec none (Bool.rec none (some (.tup [],h,n)) (Nat.beq j' 0)) (Nat.beq i' 0)) (P.beq l l')) (.ptr l' i' j'):Option jI)=some res:=e
    simp only [bE,aj] at e
    obtain ⟨l2,i2,j2,e3,h1,h2,h3,e⟩:=e
    cases e3
    cases e
    have h1:=(P.beq_iff _ _).1 h1
    have h2:=Nat.eq_of_beq_eq_true h2
    have h3:=Nat.eq_of_beq_eq_true h3
    subst h1 h2 h3
    obtain ⟨_,u,hcu,hu⟩:=iN H hL hq (λc e=>by cases e)
    rw [hadr] at hcu
    simp only [Rv] at hu
    obtain ⟨L',hL',rfl⟩:=hu
    rw [hL] at hL'
    cases hL'
    rw [hadr] at hcu
    refine .inl ⟨hcf,callsIn_wide.2 ((hused _ w hcu).mono λe' w' ⟨he,hw'⟩=>?_)⟩
    subst he hw'
    exact ⟨.tuple #[],ρ,rfl,.refl _,H,by simp only [Rv];exact ⟨#[],rfl,by simp only [Rvs]⟩⟩
theorem Eu {f:FuncId} {tE:Nat} (hcf:CF Pr f)
  (hnil:∀ (c o:Nat) (w:World),w.cell? ⟨c,o+1,none⟩=some (.slice none 0 0)->Calls Pr f #[.pointer (some ⟨c,o,none⟩)] w λe w'=>e= .returned (.string .empty)/\w'=w.drew)
  (hsome:∀ (c o g q cap:Nat) (arr:Array Value) (l:List UInt8) (w:World),w.cell? ⟨c,o+1,none⟩=some (.slice (some ⟨g,q,none⟩) l.length cap)->w.heap[g]?=some (.cells arr tE (0,0))->l≠[]->l.length<=cap->l.length<=1000000->q+l.length<=arr.size->
   (∀ j x,l[j]?=some x->arr[q+j]?=some (.int .u8 x.toNat))->Calls Pr f #[.pointer (some ⟨c,o,none⟩)] w λe w'=>e= .returned (.string ⟨l.toArray⟩)/\w'=w.drew.freeze ⟨g,q,none⟩ l.length):fO Pr f (zU tE):=by
 intro as h n res e w0 ρ w args H hv
 cases as with
 | nil=>cases e
 | cons p r=>
  cases r with
  | cons=>cases e
  | nil=>
   replace e:(V.onPtr (λl i j=>on (lw l i (Nat.succ j) h) (V.onSl (some (.str [],h,n)) λb o len _=>Bool.rec none (Bool.rec none (on (T.get b h) (Blk.onRows λt k _ rs=>Bool.rec none (Bool.rec none (on (bY len (dB o rs)) λm=>on (gC m) λx=>some (.str x,T.put none b h,n)) (Nat.beq k 1)) (Nat.beq t tE))) (Nat.ble len 1000000)) (Nat.blt 0 len))) p:Option jI)=some res:=e
   simp only [bE,ah] at e
   obtain ⟨l,i,j,rfl,s,hs,e⟩:=e
   obtain ⟨pv,rfl,hp⟩:=qM hv
   simp only [Rv] at hp
   obtain ⟨L,hL,rfl⟩:=hp
   rw [bu] at e
   rcases e with ⟨rfl,e⟩ | ⟨b,o,len,cp,rfl,e⟩
   .cases e
    obtain ⟨_,u,hcu,hu⟩:=iN H hL hs (λc e=>by cases e)
    simp only [Rv] at hu
    subst hu
    refine .inl ⟨hcf,callsIn_wide.2 ((hnil L.c _ w hcu).mono λe' w' ⟨he,hw'⟩=>?_)⟩
    subst he hw'
    exact ⟨_,ρ,rfl,.refl _,H.drew,by simp only [Rv];exact ⟨_,rfl,rfl⟩⟩
   .simp only [aj,ah,dQ] at e
    obtain ⟨hpos,hmax,B,hB,t,k,op,rs,rfl,ht,hk,m,hm,xs,hx,e⟩:=e
    cases e
    have ht:=Nat.eq_of_beq_eq_true ht
    have hk:=Nat.eq_of_beq_eq_true hk
    have hmax:=Nat.le_of_ble_eq_true hmax
    have hpos:0<len:=by rw [Nat.blt_eq] at hpos;exact hpos
    subst ht hk
    obtain ⟨_,u,hcu,hu⟩:=iN H hL hs (λc e=>by cases e)
    simp only [Rv] at hu
    obtain ⟨M,c,pp,hM,rfl,hpl,hle,hcap⟩:=hu
    obtain rfl:=(hpl.pos hpos).symm
    obtain ⟨hMk,arr,ho,hsz,hrl,_,hrow⟩:=H.live b _ M hB hM
    rw [dA] at hm
    obtain ⟨hml,rfl⟩:=bL _ _ _ hm
    have hmlen:((rs.drop o).take len).length=len:=by rw [List.length_take];omega
    have h1:∀ r ∈ (rs.drop o).take len,r.length=1:=λr hr=>by
     obtain ⟨q,hq⟩:=List.mem_iff_getElem?.1 (List.mem_of_mem_drop (List.mem_of_mem_take hr));exact (hrow q r hq).1
    obtain ⟨hfl,hlt⟩:=lg _ _ hx h1
    have hxl:xs.length=len:=by
     have:=congrArg List.length hfl;rw [fq _ h1,hmlen,List.length_map] at this;omega
    have hcell:∀ j c,xs[j]?=some c->arr[(M.o+o) * M.k+j]?=some (.int .u8 (.ofNat c)):=λj c hj=>by
     have hjl:j<xs.length:=(List.getElem?_eq_some_iff.1 hj).1
     have hri:((rs.drop o).take len)[j]?=rs[o+j]? :=by
      rw [List.getElem?_take,if_pos (by omega),List.getElem?_drop]
     have hex:∃ row,rs[o+j]?=some row:=⟨rs[o+j]'(by simp only [List.length_drop] at hml;omega),List.getElem?_eq_getElem _⟩;obtain ⟨row,hrw⟩:=hex;obtain ⟨hr1,hrr⟩:=hrow _ _ hrw
     have hv0:row[0]?=some (V.int .u8 (.ofNat c)):=by
      have hget:=fE _ h1 j 0 row (row[0]'(by omega)) (by rw [hri,hrw]) (List.getElem?_eq_getElem _);rw [hfl,Nat.mul_one,Nat.add_zero,List.getElem?_map,hj] at hget;rw [List.getElem?_eq_getElem (by omega)];exact hget.symm
     obtain ⟨x,hx1,hx2⟩:=hrr 0 _ hv0;simp only [Rv] at hx2;subst hx2;rw [hMk,← hx1]
     congr 1
     omega
    have hto:∀ c ∈ xs,(UInt8.ofNat c).toNat=c:=λc hc=>by simp [Nat.mod_eq_of_lt (hlt c hc)]
    have hbytes:xs.map (λc=>(UInt8.ofNat c).toNat)=xs:=by
     rw [List.map_congr_left (g:=id) hto,List.map_id]
    have hszb:(M.o+o) * M.k+xs.length<=arr.size:=by
     have:=(List.length_drop (l:=rs) (i:=o));rw [hMk,hsz,hxl];omega
    refine .inl ⟨hcf,callsIn_wide.2 ((hsome L.c _ M.c ((M.o+o) * M.k) c arr (xs.map UInt8.ofNat) w (by rw [List.length_map,hxl];exact hcu) ho (by intro h0;have:=congrArg List.length h0;rw [List.length_map,hxl,List.length_nil] at this;omega) (by rw [List.length_map,hxl];exact hle) (by rw [List.length_map,hxl];exact hmax) (by rw [List.length_map];exact hszb) (λj x hj=>by
      rw [List.getElem?_map] at hj
      cases hxj:xs[j]? with
      | none=>rw [hxj] at hj;cases hj
      | some c=>
       rw [hxj] at hj
       cases hj
       rw [hcell j c hxj,hto c (List.mem_of_getElem? hxj)];rfl)).mono λe' w' ⟨he,hw'⟩=>?_)⟩
    subst he hw'
    obtain ⟨o',hpt⟩:=pt_frozen (w:=w.drew) (g:=M.c) ho ((M.o+o) * M.k) (xs.map UInt8.ofNat).length
    refine ⟨_,ρ,rfl,.refl _,H.drew.spoil hB hM hpt,?_⟩
    simp only [Rv]
    exact ⟨_,rfl,by simp only [aH,List.map_map];exact hbytes⟩
end
end Go.Lk
namespace Go.Lk
open Go.Eng Go.RowKit
section
variable {P:Program} {w:World}
theorem Bo {e:TypeId} (hc:P.cellsOf e=1) (count q n:Nat) (hn:q+n<=count):liesAt P P.depth e count q e n=true:=by
 have hd:P.depth=(2 * (P.types.size+Made.depth)+1)+1:=rfl;rw [hd];simp only [liesAt,Bool.or_eq_true];left;rw [hd];simp [rowAt,hc,hn,sameLayout,Nat.mod_one]
theorem run_unsafeString_at (pt it ty e:TypeId) (hp:P.underlying pt=some (.pointer e)) (hc:P.cellsOf e=1) (g q cells:Nat) (hsh:w.shape? g=some (e,cells)) (l:List UInt8) (h0:l≠[]) (hn:q+l.length<=cells) (h63:l.length<=9223372036854775807)
  (hcell:∀ j x,l[j]?=some x->w.cell? ((⟨g,q,none⟩:Addr).add j)=some (.int .u8 x.toNat)) :
  (Builtin.unsafeString_ #[pt,it] ty #[.pointer (some ⟨g,q,none⟩),.int .i64 l.length]).run P w= .ok (.string ⟨l.toArray⟩) (w.freeze ⟨g,q,none⟩ l.length):=by
 have hl:l.length≠0:=by simpa using h0
 have hlb:=Go.Lib.run_loadBytes (P:=P) w l ⟨g,q,none⟩ .empty hcell;have hlies:=Bo (P:=P) hc (cells / P.cellsOf e) q l.length (by rw [hc];simpa using hn);have h63':¬ (9223372036854775807:Int)<(l.length:Int):=by omega
 have hdef:Builtin.unsafeString_ #[pt,it] ty #[.pointer (some ⟨g,q,none⟩),.int .i64 l.length] =
   (do
    let n ← asInt (.int .i64 l.length)
    if n<0 then runtimePanic (.error "unsafe.String: len out of range")
    if n > IntKind.i64.max then unsupported (.unsafePointer "String: a length above the largest int")
    if n=0 then pure (.string .empty)
    else if ← variablesAt ⟨g,q,none⟩ (← elemOf pt) n.toNat then do
     let s ← loadBytes ⟨g,q,none⟩ .empty n.toNat
     freeze ⟨g,q,none⟩ n.toNat
     pure (.string s)
    else unsupported (.unsafePointer "String: not so many bytes at ptr")):=rfl
 rw [hdef];have hmax:IntKind.i64.max=9223372036854775807:=rfl;have hneg:¬ (l.length:Int)<0:=by omega
 simp [asInt,asIntOf,hmax,h63',hneg,hl,variablesAt,hsh,elemOf,run_underlying hp,hlies,hlb]
end
end Go.Lk
namespace Go.Eng
open Go.RowKit
theorem DZ {w:World} {b:Nat} {cs cs':List Value} {T:TypeId} (hb:Blk w.heap b cs T):Pt w (w.setRow b cs'.toArray) b (.cells cs'.toArray T (0,0)):=by
 refine ⟨hb.lt,?_⟩;have hset:=setRow_heap w b cs.toArray cs'.toArray T (0,0) hb
 have:(w.setRow b cs'.toArray).heap=w.heap.setIfInBounds b (.cells cs'.toArray T (0,0)):=by
  apply Array.ext_getElem?;intro k
  by_cases hk:b=k
  .subst hk;rw [Array.getElem?_setIfInBounds_self,if_pos hb.lt];exact hset
  .rw [Array.getElem?_setIfInBounds_ne hk];simp only [World.setRow,Array.getElem?_modify,hk,if_false]
 rw [← this];rfl
section
variable {P:Program} {n:Nat} {σ:Nat->Value} {w w0:World} {ty t t':TypeId} {x y:Operand} {S:Nat->Prop} {L:List Ch} {K:Value->World->Prop}
theorem Ecp {b o g q dLen dCap sLen sCap e:Nat} {cs vs:List Value} {T:TypeId} (H:Hp S w0 w L) (i:Nat) (hu:P.underlying t=some (.slice e)) (hs:(P.info? e).map (·.size)=some 1) (hx:ev n σ x= .slice (some ⟨b,o,none⟩) dLen dCap) (hy:ev n σ y= .slice (some ⟨g,q,none⟩) sLen sCap) (hi:L[i]?=some (cB b T cs))
  (hn:vs.length=Nat.min sLen dLen) (hc:Cells w.heap g q vs) (hfit:o+vs.length<=cs.length) (h1:∀ v ∈ vs,v.oneCell'=true)
  (k:∀ w',Hp S w0 w' (L.set i (cB b T (cs.take o++vs++cs.drop (o+vs.length))))->K (goInt vs.length) w'):fU P (ev n σ) w (.call { callee:=.builtin .copy,args:=#[x,y],argTypes:=#[t,t'] }) ty K:=by
 have hB:Blk w.heap b cs T:=H.at i hi
 have hr:=run_copy_row (P:=P) w t t' ty e b o dLen dCap ⟨g,q,none⟩ sLen sCap cs.toArray T vs hu hs hB hn (λj v hj=>by
  have hjl:=(List.getElem?_eq_some_iff.1 hj).1;have:=hc.cell j hjl;rw [(List.getElem?_eq_some_iff.1 hj).2] at this;unfold Addr.add
  by_cases hj0:j=0
  .subst hj0;simpa using this
  .simpa [hj0] using this) (by simpa using hfit) h1
 refine ⟨_,_,k _ (H.pt i hi (DZ (cs':=cs.take o++vs++cs.drop (o+vs.length)) hB)),.inl λ_ _ _ _=>?_⟩;simp [execOp,hx,hy,resolve,invoke,builtin,hr]
theorem Ecp0 {dLen dCap sLen sCap e:Nat} {d q:Option Addr} (hu:P.underlying t=some (.slice e)) (hs:(P.info? e).map (·.size)=some 1) (hx:ev n σ x= .slice d dLen dCap) (hy:ev n σ y= .slice q sLen sCap) (h0:sLen=0)
  (k:K (goInt 0) w):fU P (ev n σ) w (.call { callee:=.builtin .copy,args:=#[x,y],argTypes:=#[t,t'] }) ty K:=by
 have hr:=run_copy_none (P:=P) w t t' ty e d q dLen dCap sLen sCap hu hs (by rw [h0];exact Nat.zero_min _);refine ⟨_,_,k,.inl λ_ _ _ _=>?_⟩;simp [execOp,hx,hy,resolve,invoke,builtin,hr]
end
end Go.Eng
namespace Go.Lk
open Go.Eng Go.RowKit
section
variable {w0:Base} {w w':World} {ρ:Ren} {h:T Blk} {n:P} {Pr:Program}
theorem E8 {f:FuncId} {m:Nat} (hcf:CF Pr f)
  (hnil:∀ w,Calls Pr f #[.slice none 0 0] w λe w'=>e= .returned (.agg (List.replicate m (Value.int .i64 0)).toArray)/\Ext w w')
  (hsome:∀ (g q len cap:Nat) (cs:List Value) (w:World),cs.length=len->len<=m->len<=cap->Cells w.heap g q cs->(∀ v ∈ cs,v.oneCell'=true)->
   Calls Pr f #[.slice (some ⟨g,q,none⟩) len cap] w λe w'=>e= .returned (.agg (cs++List.replicate (m-len) (Value.int .i64 0)).toArray)/\Ext w w'):fO Pr f (Bj m):=by
 intro as h n res e w0 ρ w args H hv
 cases as with
 | nil=>cases e
 | cons p r=>
  cases r with
  | cons=>cases e
  | nil=>
   have hz:∀ k,Rvs ρ (List.replicate k (.int .i64 0)) (List.replicate k (Value.int .i64 0)):=λk=>by
    induction k with
    | zero=>simp only [List.replicate_zero,Rvs]
    | succ k ih=>simp only [List.replicate_succ,Rvs,Rv];exact ⟨_,_,rfl,rfl,ih⟩
   obtain ⟨pv,rfl,hp⟩:=qM hv
   replace e:(V.onSl (some (.agg (ur (.int .i64 0) m),h,n)) (λb o len _=>Bool.rec none (on (T.get b h) (Blk.onRows λ_ k _ rs=>Bool.rec none (on (bY len (dB o rs)) λl=>Bool.rec none (some (.agg (fF (oz l) (ur (.int .i64 0) (Nat.sub m len))),h,n)) (qe (oz l))) (Nat.beq k 1))) (Nat.ble len m)) p:Option jI)=some res:=e
   rw [bu] at e
   rcases e with ⟨rfl,e⟩ | ⟨b,o,len,c,rfl,e⟩
   .cases e
    simp only [Rv] at hp
    subst hp
    refine .inl ⟨hcf,callsIn_wide.2 ((hnil w).mono λe' w' ⟨he,hx⟩=>?_)⟩
    subst he
    exact ⟨_,ρ,rfl,.refl _,H.ext hx,by simp only [Rv,jD];exact ⟨_,rfl,hz m⟩⟩
   .simp only [aj,ah,dQ] at e
    obtain ⟨hlm,B,hB,t,k,op,rs,rfl,hk,l,hl,h1,e⟩:=e
    cases e
    have hlm:=Nat.le_of_ble_eq_true hlm
    have hk:=Nat.eq_of_beq_eq_true hk
    subst hk
    simp only [Rv] at hp
    obtain ⟨L,c',pp,hL,rfl,hpl,hlc,hcap⟩:=hp
    obtain ⟨hLk,arr,ho,hsz,hrl,_,hrow⟩:=H.live b _ L hB hL
    rw [dA] at hl
    obtain ⟨hml,rfl⟩:=bL _ _ _ hl
    have hmlen:((rs.drop o).take len).length=len:=by rw [List.length_take];omega
    have hr1:∀ r ∈ (rs.drop o).take len,r.length=1:=λr hr=>by
     obtain ⟨q,hq⟩:=List.mem_iff_getElem?.1 (List.mem_of_mem_drop (List.mem_of_mem_take hr));exact (hrow q r hq).1
    rw [nD] at h1 ⊢
    have hfl:=fq _ hr1
    rw [hmlen,Nat.mul_one] at hfl
    have hR:Row ρ arr (L.o+o) ((rs.drop o).take len).flatten:=λj v hj=>by
     have hjl:j<len:=by rw [← hfl];exact (List.getElem?_eq_some_iff.1 hj).1
     have hri:((rs.drop o).take len)[j]?=rs[o+j]? :=by rw [List.getElem?_take,if_pos hjl,List.getElem?_drop]
     obtain ⟨row,hrw⟩:∃ row,rs[o+j]?=some row:=⟨rs[o+j]'(by simp only [List.length_drop] at hml;omega),List.getElem?_eq_getElem _⟩;obtain ⟨hr1',hrr⟩:=hrow _ _ hrw;have hget:=fE _ hr1 j 0 row (row[0]'(by omega)) (by rw [hri,hrw]) (List.getElem?_eq_getElem _);rw [Nat.mul_one,Nat.add_zero,hj] at hget;cases hget
     obtain ⟨x,hx1,hx2⟩:=hrr 0 _ (List.getElem?_eq_getElem _);exact ⟨x,by rw [← hx1];congr 1;omega,hx2⟩
    have key:∀ (row:List V) (at_:Nat),Row ρ arr at_ row->∃ cs:List Value,cs.length=row.length/\(∀ j (hj:j<cs.length),arr[at_+j]?=some cs[j])/\Rvs ρ row cs:=by
     intro row
     induction row with
     | nil=>intro at_ _;exact ⟨[],rfl,λj hj=>absurd hj (by simp),by simp only [Rvs]⟩
     | cons v row ih=>
      intro at_ hr
      obtain ⟨x,hx,hv⟩:=hr 0 v rfl
      obtain ⟨cs,h1,h2,h3⟩:=ih (at_+1) (λj u hu=>by
       obtain ⟨y,hy,h⟩:=hr (j+1) u hu
       exact ⟨y,by rw [← hy];congr 1;omega,h⟩)
      refine ⟨x::cs,by simp [h1],λj hj=>?_,by simp only [Rvs];exact ⟨x,cs,rfl,hv,h3⟩⟩
      cases j with
      | zero=>exact hx
      | succ j=>
       have:=h2 j (by simpa using hj)
       rw [show at_+(j+1)=at_+1+j by omega,this];rfl
    obtain ⟨cs,hcl,hcc,hcr⟩:=key _ _ hR
    have hone:∀ v ∈ cs,v.oneCell'=true:=λv hv=>by
     have h0:=jr h1 hcr v hv;cases v <;> first | rfl | exact absurd rfl (h0 _).1 | exact absurd rfl (h0 _).2
    have hq:(L.o+pp) * L.k=L.o+pp:=by rw [hLk,Nat.mul_one]
    rw [hq]
    refine .inl ⟨hcf,callsIn_wide.2 ((hsome L.c (L.o+pp) len c' cs w (by omega) hlm hlc ⟨arr,t,(0,0),ho,λj hj=>by rw [hpl.pos (by omega)];exact hcc j hj⟩ hone).mono λe' w' ⟨he,hx⟩=>?_)⟩
    subst he
    exact ⟨_,ρ,rfl,.refl _,H.ext hx,by simp only [Rv,jD,il];exact ⟨_,rfl,hcr.append (hz _)⟩⟩
end
end Go.Lk
namespace Go.Lk
open Go.Eng Go.RowKit
theorem CO:∀ (a b:List UInt8),rF (a.map (·.toNat)) (b.map (·.toNat))=Go.Lib.compareBytes a b
 | [],[]=>rfl
 | [],_::_=>rfl
 | _::_,[]=>rfl
 | x::a,y::b=>by
  have ih:=CO a b;unfold rF at ih;have e1:JG ((x::a).map (·.toNat)) ((y::b).map (·.toNat))=(Bool.rec (Bool.rec false (JG (a.map (·.toNat)) (b.map (·.toNat))) (Nat.beq x.toNat y.toNat)) true (Nat.blt x.toNat y.toNat):Bool):=rfl;have e2:zI ((x::a).map (·.toNat)) ((y::b).map (·.toNat))=(Bool.rec false (zI (a.map (·.toNat)) (b.map (·.toNat))) (Nat.beq x.toNat y.toNat):Bool):=rfl;unfold rF;rw [e1,e2,dm,jf];unfold Go.Lib.compareBytes
  by_cases h:x<y
  .have h':x.toNat<y.toNat:=h;simp only [h,h',decide_true,if_true];rfl
  .have h':¬ x.toNat<y.toNat:=h;simp only [h,h',decide_false,if_false]
   by_cases g:y<x
   .have g':y.toNat<x.toNat:=g;have hne:¬ x.toNat=y.toNat:=by omega
    simp only [g,hne,decide_false,if_true];rfl
   .have g':¬ y.toNat<x.toNat:=g;have heq:x.toNat=y.toNat:=by omega
    simp only [g,heq,decide_true,if_false];exact ih
theorem K8 {Pr:Program} {f:FuncId} (hen:dG Pr f=none) (hrun:∀ (a b:ByteArray) (w:World),(callFunc f #[.string a,.string b]).run Pr w= .ok (.value (.int .i64 (Go.Lib.compareBytes a.data.toList b.data.toList))) w):fO Pr f NI:=by
 intro as h n res e w0 ρ w args H hv
 cases as with
 | nil=>cases e
 | cons p r=>
  cases r with
  | nil=>cases e
  | cons q r=>
   cases r with
   | cons=>cases e
   | nil=>
    replace e:V.onStr (λa=>V.onStr (λb=>some ((.int .i64 (rF a b),h,n):jI)) q) p=some res:=e
    simp only [bV] at e
    obtain ⟨a,rfl,b,rfl,e⟩:=e
    cases e
    simp only [Rvs,Rv] at hv
    obtain ⟨x,r1,h1,⟨s,rfl,rfl⟩,y,r2,rfl,⟨t,rfl,rfl⟩,rfl⟩:=hv
    obtain rfl:args=#[.string s,.string t]:=by rw [← Array.toArray_toList (xs:=args),h1]
    refine .inr ⟨hen,_,w,hrun s t w,⟨_,ρ,rfl,.refl _,H,?_⟩⟩
    simp only [Rv]
    unfold aH
    rw [CO]
end Go.Lk
namespace Go.Lk
open Go.Eng Go.RowKit
section
variable {w0:Base} {w w':World} {ρ:Ren} {h:T Blk} {n:P} {Pr:Program}
end
end Go.Lk
