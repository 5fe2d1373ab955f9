/- A lean reckoner for closed runs: entries that are held, calls; all operations. Over any program. -/
import Derived.Test.YtljfgmedbjlkaaaGreatLkR
import Derived.Test.YtljfgmedbjlkaaaGreatLkI
namespace Go.Lk
open Go.Eng Go.RowKit
section
variable {ρ:Ren} {Pr:Program} {m:Nat} {w0:Base} {w:World} {ty t t':TypeId} {σ:T V} {τ:Nat→Value} {h:T Blk} {n:P} {run:Run} {β:Type} {r:β} {kc:V→T Blk→P→Option β}
theorem same_world {w:World} {b:Nat} {o:Obj} (h:w.heap[b]?=some o):({ w with heap:=w.heap.setIfInBounds b o }:World)=w:=by
 have:w.heap.setIfInBounds b o=w.heap:=by
  apply Array.ext_getElem?
  intro j
  rw [Array.getElem?_setIfInBounds]
  by_cases hj:b=j
  ·subst hj;rw [if_pos rfl,h,if_pos (Array.getElem?_eq_some_iff.1 h).1]
  ·rw [if_neg hj]
 rw [this]
theorem e_mapEntry' (H:Rh w0 ρ h n w) (f:Fr ρ m σ τ) {mo ko:Operand} (e:(on (evO mo σ) fun m=>on (evO ko σ) fun k=>V.onMap none (fun b=>onMapB h b fun es c=>
  findE (keyT Pr t) k (fun _ e=>kc (.tup [e.2.1,.int .i64 (.ofNat e.2.2)]) h n) (on (mapElemT Pr t) fun z=>kc (.tup [z,.int .i64 (.ofNat c)]) (mapPut b (appL es [(k,z,c)]) (Nat.succ c) h) n) es) m)=some r):Eff Pr (ev m τ) w (.mapEntry t mo ko) ty (Kx w0 ρ r kc):=by
 simp only [on_some] at e
 obtain ⟨mv,hm,kv,hk,e⟩:=e
 have hM:=evO_sound f hm
 have hK:=evO_sound f hk
 rw [onMap_some] at e
 rcases e with ⟨_,e⟩ | ⟨b,rfl,e⟩
 ·cases e
 ·obtain ⟨es,c,hB,e⟩:=onMapB_some' (r:=r) e
  simp only [Rv] at hM
  obtain ⟨L,hL,hM⟩:=hM
  obtain ⟨l,hl,ha,hn⟩:=H.live b _ L hB hL
  rcases mapT (Pr:=Pr) t with ⟨k,el,hu,q1,q2⟩ | q
  ·rw [q1] at e
   obtain ⟨hck,hst,hf⟩:=findE_spec (r:=r) hK ha hn e w
   have hck:=hck false
   have hget:(getObj L.c).run Pr w= .ok (.map l c) w:=by simp [getObj,Sem.run,hl]
   rcases hf with ⟨p1,p2,p3⟩ | ⟨j,e',y,p1,p2,p3,p4,p5,p6⟩
   ·rw [on_some] at p2
    obtain ⟨z,hz,p2⟩:=p2
    rw [q2] at hz
    obtain ⟨zr,hzr,hzv⟩:=zeroT_spec (ρ:=ρ) hz
    have hzr':=hzr w
    obtain ⟨g1,g2⟩:=push_rel (c:=c) ha hn hK hzv p3
    refine ⟨.tuple #[zr,goInt c],{ w with heap:=w.heap.setIfInBounds L.c (.map (l.push { key:=ev m τ ko,val:=zr,born:=c }) (c+1)) },⟨ρ,_,_,n,.refl _,map_turn H hB hL g1 g2,?_,p2⟩,.inl fun _ _ _ _=>?_⟩
    ·simp only [Rv];exact ⟨_,rfl,by simp only [Rvs,Rv];exact ⟨_,_,rfl,hzv,_,_,rfl,rfl,rfl⟩⟩
    ·simp [execOp,hM,Instr.mapEntry,run_underlying hu,hget,hck,p1,hzr',setObj_run hl (by intros;simp)]
   ·have hmod:l.modify j (fun e=>{ e with key:=y.key })=l:=by
     apply Array.ext_getElem?
     intro q
     rw [Array.getElem?_modify]
     by_cases hq:j=q
     ·subst hq;rw [if_pos rfl,p3];rfl
     ·rw [if_neg hq]
    refine ⟨.tuple #[y.val,goInt y.born],w,⟨ρ,_,_,n,.refl _,H,?_,p6⟩,.inl fun _ _ _ _=>?_⟩
    ·simp only [Rv];exact ⟨_,rfl,by simp only [Rvs,Rv];exact ⟨_,_,rfl,p4.2.1,_,_,rfl,by rw [p4.2.2];rfl,rfl⟩⟩
    ·have hw:=same_world hl
     rw [p5] at hmod
     simp [execOp,hM,Instr.mapEntry,run_underlying hu,hget,hck,p1,p3,p5,hst,setObj_run hl (by intros;simp),hmod,hw]
  ·rw [q] at e;exact absurd e findE_dead
theorem setS_rel {s:Nat} {v:V} {X:Value} (hv:Rv ρ v X):∀ {es es':List Ent} {l:List MapEntry},All2 (ER ρ) es l→setS s v es=some es'→∃ i y,l[i]?=some y∧y.born=s∧(∀ j,j<i→∀ z,l[j]?=some z→z.born≠s)∧All2 (ER ρ) es' (l.set i { y with val:=X })
 | _,es',_,.nil,e=>by cases e
 | x::es,es',y::l,.cons h1 h2,e=>by
  replace e:(Bool.rec (on (setS s v es) fun m=>some (x::m)) (some ((x.1,v,x.2.2)::es)) (Nat.beq x.2.2 s):Option (List Ent))=some es':=e
  rw [if_some] at e
  rcases e with ⟨hs,e⟩ | ⟨hs,e⟩
  ·cases e
   have:=Nat.eq_of_beq_eq_true hs
   exact ⟨0,y,rfl,by rw [h1.2.2,this],fun j hj=>by omega,.cons ⟨h1.1,hv,h1.2.2⟩ h2⟩
  ·rw [on_some] at e
   obtain ⟨m',hm,e⟩:=e
   cases e
   obtain ⟨i,z,a1,a2,a3,a4⟩:=setS_rel hv h2 hm
   refine ⟨i+1,z,a1,a2,fun j hj u hu=>?_,.cons h1 a4⟩
   cases j with
   | zero=>
    cases hu
    intro hb
    rw [h1.2.2] at hb
    rw [hb,Nat.beq_refl] at hs;cases hs
   | succ j=>exact a3 j (by omega) u hu
theorem e_entryStore' (H:Rh w0 ρ h n w) (f:Fr ρ m σ τ) {mo so vo:Operand} (e:(on (evO mo σ) fun m=>on (evO so σ) fun s=>on (evO vo σ) fun v=>V.onMap none (fun b=>onNat (fun s=>onMapB h b fun es c=>on (setS s v es) fun es'=>kc undefV (mapPut b es' c h) n) s) m)=some r):Eff Pr (ev m τ) w (.entryStore t mo so vo) ty (Kx w0 ρ r kc):=by
 simp only [on_some] at e
 obtain ⟨mv,hm,sv,hs,vv,hv,e⟩:=e
 have hM:=evO_sound f hm
 have hS:=evO_sound f hs
 have hV:=evO_sound f hv
 rw [onMap_some] at e
 rcases e with ⟨_,e⟩ | ⟨b,rfl,e⟩
 ·cases e
 ·rw [onNat_some] at e
  obtain ⟨ks,s,rfl,e⟩:=e
  obtain ⟨es,c,hB,e⟩:=onMapB_some' (r:=r) e
  rw [on_some] at e
  obtain ⟨es',hes,e⟩:=e
  simp only [Rv] at hM hS
  obtain ⟨L,hL,hM⟩:=hM
  obtain ⟨l,hl,ha,hn⟩:=H.live b _ L hB hL
  obtain ⟨i,y,a1,a2,a3,a4⟩:=setS_rel hV ha hes
  have hget:(getObj L.c).run Pr w= .ok (.map l c) w:=by simp [getObj,Sem.run,hl]
  have hi:l[i]?=some y:=by rw [← Array.getElem?_toList];exact a1
  have hlt:=(Array.getElem?_eq_some_iff.1 hi).1
  have hfind:l.findIdx? (fun e=>(e.born:Int) == (s:Int))=some i:=by
   rw [Array.findIdx?_eq_some_iff_getElem]
   refine ⟨hlt,?_,fun j hj=>?_⟩
   ·have:=(Array.getElem?_eq_some_iff.1 hi).2
    rw [this,a2];simp
   ·have hjl:j<l.size:=by omega
    have:=a3 j hj l[j] (by rw [Array.getElem?_toList,Array.getElem?_eq_getElem hjl])
    simp;exact_mod_cast this
  have hmod:(l.modify i fun e=>{ e with val:=ev m τ vo }).toList=l.toList.set i { y with val:=ev m τ vo }:=by
   apply List.ext_getElem?
   intro q
   rw [Array.getElem?_toList,Array.getElem?_modify,List.getElem?_set]
   by_cases hq:i=q
   ·subst hq
    rw [if_pos rfl,if_pos rfl,hi,if_pos (by rw [Array.length_toList];exact hlt)];rfl
   ·rw [if_neg hq,if_neg hq,Array.getElem?_toList]
  have hkeys:((l.modify i fun e=>{ e with val:=ev m τ vo }).toList.map (·.key)).Nodup:=by
   rw [hmod,List.map_set]
   have:(l.toList.map (·.key)).set i y.key=l.toList.map (·.key):=by
    apply List.ext_getElem?
    intro q
    rw [List.getElem?_set]
    by_cases hq:i=q
    ·subst hq
     rw [if_pos rfl,List.getElem?_map,a1]
     split
     ·rfl
     ·rename_i hlt'
      simp only [List.length_map] at hlt'
      exact absurd (List.getElem?_eq_some_iff.1 a1).1 hlt'
    ·rw [if_neg hq]
   rw [this];exact hn
  refine ⟨undef,{ w with heap:=w.heap.setIfInBounds L.c (.map (l.modify i fun e=>{ e with val:=ev m τ vo }) c) },⟨ρ,undefV,_,n,.refl _,map_turn H hB hL (by rw [hmod];exact a4) hkeys,Rv_undef,e⟩,.inr ⟨rfl,fun _ _ _ _=>?_⟩⟩
  have hS2:ev m τ so= .int ks (s:Int):=hS
  simp [execOp,hM,hS2,Instr.entryStore,hget,asInt,asIntOf,hfind,setObj_run hl (by intros;simp)]
theorem e_makeMapR (H:Rh w0 ρ h n w) (f:Fr ρ m σ τ) {x:Operand} (e:(Bool.rec none (on (evO x σ) (V.onInt fun _ _=>newB (.map [] 0) (.map n) h n kc)) (mapTy Pr t):Option β)=some r):Eff Pr (ev m τ) w (.makeMap t (some x)) ty (Kx w0 ρ r kc):=by
 rw [ifT_some,on_some] at e
 obtain ⟨ht,a,ha,e⟩:=e
 rw [onInt_some] at e
 obtain ⟨k,z,rfl,e⟩:=e
 have hx:=evO_sound f ha
 simp only [Rv] at hx
 unfold mapTy at ht
 split at ht
 ·rename_i kt et hu
  refine ⟨.map (some w.heap.size),w.alloc (.map #[] 0),?_,.inl fun _ _ _ _=>by simp [execOp,hx,Instr.makeMap,run_underlying hu,asInt,asIntOf,newObj,Sem.run]⟩
  refine ⟨ρ.put n ⟨w.heap.size,0,0,0⟩,_,_,_,Ren.le_put H.free,H.grow ⟨rfl⟩ (.inr rfl) H.free (by rw [P.num_succ];omega) (by rw [P.num_succ];omega) rfl (B:=.map [] 0) ⟨#[],rfl,.nil,by simp⟩,?_,e⟩
  simp only [Rv]
  exact ⟨_,Ren.put_same,rfl⟩
 ·cases ht
end
end Go.Lk
namespace Go.Lk
open Go.Eng Go.RowKit
section
variable {ρ:Ren} {Pr:Program} {m:Nat} {w0:Base} {w:World} {ty t t':TypeId} {σ:T V} {τ:Nat→Value} {h:T Blk} {n:P} {run:Run} {β:Type} [Jn β] {r:β} {kc:V→T Blk→P→Option β}
theorem on_id {γ:Type} {x:Option γ} {v:γ} (e:on x (fun v=>some v)=some v):x=some v:=by
  rw [on_some] at e
  obtain ⟨a,h1,h2⟩:=e
  cases h2;exact h1
theorem quiet_ok (H:Rh w0 ρ h n w) (f:Fr ρ m σ τ) {op:Op} (hq:quietOp Pr op=true) {v:V} (e:quietX Pr op σ h=some v):∃ u,Ex Pr (ev m τ) w op ty u∧Rv ρ v u:=by
  cases op
  case convert s d x=>exact s_conv H f hq e
  case move x=>
    replace e:on (evO x σ) (fun v=>some v)=some v:=e
    exact s_move f (on_id e)
  case assign x=>
    replace e:on (evO x σ) (fun v=>some v)=some v:=e
    exact s_assign f (on_id e)
  case pick c a b=>
    replace e:on (on (evO c σ) (V.onBool fun t=>Bool.rec (evO b σ) (evO a σ) t)) (fun v=>some v)=some v:=e
    exact s_pick f (on_id e)
  case build t parts=>
    replace e:on (buildQ Pr t parts.toList σ) (fun v=>some v)=some v:=e
    exact s_build f (on_id e)
  case load t a=>
    replace e:(Option.rec (fun _ _ _ _ _=>none) (fun g=>qx fun σ h=>on (evO a σ) fun v=>loadQ g v h) (aggT Pr t):OX V) (fun _ _ _=>none) σ h .z (fun v _ _=>some v)=some v:=e
    cases hg:aggT Pr t with
    | none=>rw [hg] at e;cases e
    | some g=>
      rw [hg] at e
      replace e:on (on (evO a σ) fun v=>loadQ g v h) (fun v=>some v)=some v:=e
      exact s_load H f hg (on_id e)
  case nilCheck x=>
    replace e:on (on (evO x σ) nilQ) (fun v=>some v)=some v:=e
    exact s_nilCheck f (on_id e)
  case binOp op t x y t'=>
    replace e:on (on (evO x σ) fun a=>on (evO y σ) fun b=>binQ Pr t (bor (isC x) (isC y)) op a b) (fun v=>some v)=some v:=e
    exact s_bin f (on_id e)
  case unOp op t x=>
    replace e:on (on (evO x σ) (unQ op)) (fun v=>some v)=some v:=e
    have e:=on_id e
    refine s_un f e ?_
    rw [on_some] at e
    obtain ⟨a,_,e⟩:=e
    cases op <;> first | exact .inl rfl | exact .inr (.inl rfl) | exact .inr (.inr rfl) | cases e
  case makeInterface t x=>
    replace e:on (Bool.rec none (on (evO x σ) fun v=>some (.iface t v)) (concT Pr t)) (fun v=>some v)=some v:=e
    exact s_makeInterface f (on_id e)
  case makeFunc g first captured=>
    cases g <;> first | (cases e;done) | skip
    rename_i g
    replace e:on (on (evOs first.toList σ) fun a=>on (evOs captured.toList σ) fun b=>some (.fn g a b)) (fun v=>some v)=some v:=e
    exact s_makeFunc f (on_id e)
  case slice t x lo hi mx=>
    replace e:on (on (evO x σ) fun v=>sliceQ Pr t lo hi mx v σ h) (fun v=>some v)=some v:=e
    exact s_slice H f (on_id e)
  case fieldAddr s x fi=>
    cases hf:fieldT Pr s fi with
    | none=>
      replace e:(match fieldT Pr s fi with | some fl=>(match szT Pr fl.type with | some (_+1)=>qx fun σ _=>on (evO x σ) (V.onPtr fun b i j=>some (.ptr b i (Nat.add j fl.offset))) | _=>fun _ _ _ _ _=>none) | none=>fun _ _ _ _ _=>none:OX V) (fun _ _ _=>none) σ h .z (fun v _ _=>some v)=some v:=e
      rw [hf] at e;cases e
    | some fl=>
      replace e:(match fieldT Pr s fi with | some fl=>(match szT Pr fl.type with | some (_+1)=>qx fun σ _=>on (evO x σ) (V.onPtr fun b i j=>some (.ptr b i (Nat.add j fl.offset))) | _=>fun _ _ _ _ _=>none) | none=>fun _ _ _ _ _=>none:OX V) (fun _ _ _=>none) σ h .z (fun v _ _=>some v)=some v:=e
      rw [hf] at e
      dsimp only at e
      cases hk:szT Pr fl.type with
      | none=>rw [hk] at e;cases e
      | some k=>
        rw [hk] at e
        cases k with
        | zero=>cases e
        | succ k=>
          replace e:on (on (evO x σ) (V.onPtr fun b i j=>some (.ptr b i (Nat.add j fl.offset)))) (fun v=>some v)=some v:=e
          exact s_fieldAddr f hf hk (on_id e)
  case field s x fi=>
    replace e:(match fieldT Pr s fi with | some fl=>(match szT Pr fl.type,aggT Pr fl.type with | some k,some g=>qx fun σ _=>on (evO x σ) (fieldQ fl.offset k g) | _,_=>fun _ _ _ _ _=>none) | none=>fun _ _ _ _ _=>none:OX V) (fun _ _ _=>none) σ h .z (fun v _ _=>some v)=some v:=e
    cases hf:fieldT Pr s fi with
    | none=>rw [hf] at e;cases e
    | some fl=>
      rw [hf] at e
      dsimp only at e
      cases hk:szT Pr fl.type with
      | none=>rw [hk] at e;cases e
      | some k=>
        rw [hk] at e
        cases hg:aggT Pr fl.type with
        | none=>rw [hg] at e;cases e
        | some g=>
          rw [hg] at e
          replace e:on (on (evO x σ) (fieldQ fl.offset k g)) (fun v=>some v)=some v:=e
          exact s_field f hf hk hg (on_id e)
  case indexAddr t x i=>
    replace e:on (on (evO x σ) fun v=>on (evO i σ) (onNat fun i=>indexAddrQ (arrK Pr t) (elemK Pr t) h v i)) (fun v=>some v)=some v:=e
    exact s_indexAddr H f (on_id e)
  case index t x i=>
    replace e:on (on (evO x σ) fun v=>on (evO i σ) (onNat fun i=>indexQ (strT Pr t) (arrG Pr t) v i)) (fun v=>some v)=some v:=e
    exact s_index f (on_id e)
  case lookup t mo ko ok=>
    replace e:on (on (evO mo σ) fun m=>on (evO ko σ) fun k=>lookQ (keyT Pr t) (mapElemT Pr t) ok m k h) (fun v=>some v)=some v:=e
    exact s_lookup H f (on_id e)
  case entry it=>
    replace e:on (entryQ it σ h) (fun v=>some v)=some v:=e
    exact s_entry H f (on_id e)
  case extract x i=>
    replace e:on (on (evO x σ) (V.onTup fun l=>nthL i l)) (fun v=>some v)=some v:=e
    exact s_extract f (on_id e)
  case call c=>
    obtain ⟨callee,as,ts⟩:=c
    cases callee <;> first | (cases hq;done) | skip
    rename_i b
    have e:on (evOs as.toList σ) (fun as=>builtinX Pr b ts as h .z fun v _ _=>some v)=some v:=e
    rw [on_some] at e
    obtain ⟨vs,ha,e⟩:=e
    cases b <;> first | (cases hq;done) | skip
    · obtain ⟨u,x,h1,h2,h3⟩:=s_cap (w:=w) (ty:=ty) f ha e
      cases h1;exact ⟨x,h3,h2⟩
    · obtain ⟨u,x,h1,h2,h3⟩:=s_len (w:=w) (ty:=ty) H f ha e
      cases h1;exact ⟨x,h3,h2⟩
    · obtain ⟨u,x,h1,h2,h3⟩:=s_max (w:=w) (ty:=ty) f ha e
      cases h1;exact ⟨x,h3,h2⟩
    · obtain ⟨u,x,h1,h2,h3⟩:=s_min (w:=w) (ty:=ty) f ha e
      cases h1;exact ⟨x,h3,h2⟩
  all_goals cases hq
theorem still_ok {op:Op} (hs:stillOp op=true) (h h':T Blk):quietX Pr op σ h=quietX Pr op σ h':=by
  cases op <;> first | (cases hs;done) | rfl | skip
  case field s x fi=>
    show (match fieldT Pr s fi with | some fl=>(match szT Pr fl.type,aggT Pr fl.type with | some k,some g=>qx fun σ _=>on (evO x σ) (fieldQ fl.offset k g) | _,_=>fun _ _ _ _ _=>none) | none=>fun _ _ _ _ _=>none:OX V) (fun _ _ _=>none) σ h .z (fun v _ _=>some v)=(match fieldT Pr s fi with | some fl=>(match szT Pr fl.type,aggT Pr fl.type with | some k,some g=>qx fun σ _=>on (evO x σ) (fieldQ fl.offset k g) | _,_=>fun _ _ _ _ _=>none) | none=>fun _ _ _ _ _=>none:OX V) (fun _ _ _=>none) σ h' .z (fun v _ _=>some v)
    cases fieldT Pr s fi with
    | none=>rfl
    | some fl=>simp only;cases szT Pr fl.type <;> cases aggT Pr fl.type <;> rfl
  case fieldAddr s x fi=>
    show (match fieldT Pr s fi with | some fl=>(match szT Pr fl.type with | some (_+1)=>qx fun σ _=>on (evO x σ) (V.onPtr fun b i j=>some (.ptr b i (Nat.add j fl.offset))) | _=>fun _ _ _ _ _=>none) | none=>fun _ _ _ _ _=>none:OX V) (fun _ _ _=>none) σ h .z (fun v _ _=>some v)=(match fieldT Pr s fi with | some fl=>(match szT Pr fl.type with | some (_+1)=>qx fun σ _=>on (evO x σ) (V.onPtr fun b i j=>some (.ptr b i (Nat.add j fl.offset))) | _=>fun _ _ _ _ _=>none) | none=>fun _ _ _ _ _=>none:OX V) (fun _ _ _=>none) σ h' .z (fun v _ _=>some v)
    cases fieldT Pr s fi with
    | none=>rfl
    | some fl=>simp only;cases szT Pr fl.type with
      | none=>rfl
      | some k=>cases k <;> rfl
  case makeFunc g a b=>cases g <;> rfl
theorem quiet_cps {op:Op} (hq:quietOp Pr op=true) (e:opX Pr op run σ h n kc=some r):∃ v,quietX Pr op σ h=some v∧kc v h n=some r:=by
  have lift:∀ {q:T V→T Blk→Option V} {o1:OX β} {o2:OX V},o1=qx q→o2=qx q→o1 run σ h n kc=some r→∃ v,o2 (fun _ _ _=>none) σ h .z (fun v _ _=>some v)=some v∧kc v h n=some r:=by
    intro q o1 o2 h1 h2 e
    subst h1 h2
    unfold qx at e ⊢
    rw [on_some] at e
    obtain ⟨v,h1,h2⟩:=e
    exact ⟨v,by rw [h1];rfl,h2⟩
  cases op
  case load t a=>
    replace e:(Option.rec (fun _ _ _ _ _=>none) (fun g=>qx fun σ h=>on (evO a σ) fun v=>loadQ g v h) (aggT Pr t):OX β) run σ h n kc=some r:=e
    show ∃ v,(Option.rec (fun _ _ _ _ _=>none) (fun g=>qx fun σ h=>on (evO a σ) fun v=>loadQ g v h) (aggT Pr t):OX V) (fun _ _ _=>none) σ h .z (fun v _ _=>some v)=some v∧kc v h n=some r
    cases hg:aggT Pr t with
    | none=>rw [hg] at e;cases e
    | some g=>rw [hg] at e;exact lift rfl rfl e
  case makeFunc g a b=>
    cases g <;> first | (cases e;done) | exact lift rfl rfl e
  case fieldAddr s x fi=>
    replace e:(match fieldT Pr s fi with | some fl=>(match szT Pr fl.type with | some (_+1)=>qx fun σ _=>on (evO x σ) (V.onPtr fun b i j=>some (.ptr b i (Nat.add j fl.offset))) | _=>fun _ _ _ _ _=>none) | none=>fun _ _ _ _ _=>none:OX β) run σ h n kc=some r:=e
    show ∃ v,(match fieldT Pr s fi with | some fl=>(match szT Pr fl.type with | some (_+1)=>qx fun σ _=>on (evO x σ) (V.onPtr fun b i j=>some (.ptr b i (Nat.add j fl.offset))) | _=>fun _ _ _ _ _=>none) | none=>fun _ _ _ _ _=>none:OX V) (fun _ _ _=>none) σ h .z (fun v _ _=>some v)=some v∧kc v h n=some r
    cases hf:fieldT Pr s fi with
    | none=>rw [hf] at e;cases e
    | some fl=>
      rw [hf] at e
      simp only at e ⊢
      cases hk:szT Pr fl.type with
      | none=>rw [hk] at e;cases e
      | some k=>
        rw [hk] at e
        cases k with
        | zero=>cases e
        | succ k=>exact lift rfl rfl e
  case field s x fi=>
    replace e:(match fieldT Pr s fi with | some fl=>(match szT Pr fl.type,aggT Pr fl.type with | some k,some g=>qx fun σ _=>on (evO x σ) (fieldQ fl.offset k g) | _,_=>fun _ _ _ _ _=>none) | none=>fun _ _ _ _ _=>none:OX β) run σ h n kc=some r:=e
    show ∃ v,(match fieldT Pr s fi with | some fl=>(match szT Pr fl.type,aggT Pr fl.type with | some k,some g=>qx fun σ _=>on (evO x σ) (fieldQ fl.offset k g) | _,_=>fun _ _ _ _ _=>none) | none=>fun _ _ _ _ _=>none:OX V) (fun _ _ _=>none) σ h .z (fun v _ _=>some v)=some v∧kc v h n=some r
    cases hf:fieldT Pr s fi with
    | none=>rw [hf] at e;cases e
    | some fl=>
      rw [hf] at e
      simp only at e ⊢
      cases hk:szT Pr fl.type with
      | none=>rw [hk] at e;cases e
      | some k=>
        rw [hk] at e
        cases hg:aggT Pr fl.type with
        | none=>rw [hg] at e;cases e
        | some g=>rw [hg] at e;exact lift rfl rfl e
  case convert s d x=>
    replace e:(CK.rec (fun k=>qx fun σ _=>on (evO x σ) (V.onInt fun _ a=>some (.int k (k.wrap a))))
      (qx fun σ _=>on (evO x σ) (V.onInt fun _ a=>some (.flt (fromInt a))))
      (fun bs _ σ h n f=>on (evO x σ) (toStr h n f bs))
      (fun _ _ σ h n f=>on (evO x σ) (V.onStr fun l=>Bool.rec (newB (.fz l) (.sl n 0 (lenL l) none) h n f) none (Nat.beq (lenL l) 0)))
      (fun _ _ _ _ _=>none) (convK Pr s d):OX β) run σ h n kc=some r:=e
    show ∃ v,(CK.rec (fun k=>qx fun σ _=>on (evO x σ) (V.onInt fun _ a=>some (.int k (k.wrap a))))
      (qx fun σ _=>on (evO x σ) (V.onInt fun _ a=>some (.flt (fromInt a))))
      (fun bs _ σ h n f=>on (evO x σ) (toStr h n f bs))
      (fun _ _ σ h n f=>on (evO x σ) (V.onStr fun l=>Bool.rec (newB (.fz l) (.sl n 0 (lenL l) none) h n f) none (Nat.beq (lenL l) 0)))
      (fun _ _ _ _ _=>none) (convK Pr s d):OX V) (fun _ _ _=>none) σ h .z (fun v _ _=>some v)=some v∧kc v h n=some r
    unfold quietOp at hq
    simp only at hq
    cases hK:convK Pr s d with
    | int k=>rw [hK] at e;exact lift rfl rfl e
    | flt=>rw [hK] at e;exact lift rfl rfl e
    | bytes=>rw [hK] at hq;cases hq
    | no=>rw [hK] at hq;cases hq
    | str bs=>
      rw [hK] at e
      replace e:on (evO x σ) (toStr h n kc bs)=some r:=e
      show ∃ v,on (evO x σ) (toStr h .z (fun v _ _=>some v) bs)=some v∧kc v h n=some r
      rw [on_some] at e
      obtain ⟨a,ha,e⟩:=e
      rw [ha]
      show ∃ v,toStr h .z (fun v _ _=>some v) bs a=some v∧kc v h n=some r
      cases a <;> first | (cases e;done) | exact ⟨_,rfl,e⟩ | skip
      · replace e:(Bool.rec none (kc (.str []) h n) bs:Option β)=some r:=e
        rw [ifT_some] at e
        obtain ⟨rfl,e⟩:=e
        exact ⟨_,rfl,e⟩
      · rename_i b i len cap
        replace e:(Bool.rec none (sliceRows2 1 b i len h fun m=>on (bytesR m) fun l=>kc (.str l) h n) bs:Option β)=some r:=e
        rw [ifT_some] at e
        obtain ⟨rfl,e⟩:=e
        show ∃ v,(sliceRows2 1 b i len h fun m=>on (bytesR m) fun l=>some (V.str l))=some v∧kc v h n=some r
        unfold sliceRows2 at e ⊢
        rw [on_some] at e
        simp only [on_some]
        obtain ⟨B,hB,e⟩:=e
        cases B <;> first | (cases e;done) | skip
        · rename_i t k o rs
          replace e:(Bool.rec none (on (takeL len (dropL i rs)) fun m=>on (bytesR m) fun l=>kc (.str l) h n) (Nat.beq k 1):Option β)=some r:=e
          simp only [on_some,ifT_some] at e
          obtain ⟨hk,old,ht,l,hl,e⟩:=e
          refine ⟨.str l,⟨_,hB,?_⟩,e⟩
          show (Bool.rec none (on (takeL len (dropL i rs)) fun m=>on (bytesR m) fun l=>some (V.str l)) (Nat.beq k 1):Option V)=_
          simp only [on_some,ifT_some]
          exact ⟨hk,old,ht,l,hl,rfl⟩
        · rename_i q
          replace e:(Bool.rec none (on (takeL len (dropL i q)) fun m=>on (bytesR (mapL (fun c=>[.int .u8 (.ofNat c)]) m)) fun l=>kc (.str l) h n) (Nat.beq 1 1):Option β)=some r:=e
          simp only [on_some,ifT_some] at e
          obtain ⟨hk,old,ht,l,hl,e⟩:=e
          refine ⟨.str l,⟨_,hB,?_⟩,e⟩
          show (Bool.rec none (on (takeL len (dropL i q)) fun m=>on (bytesR (mapL (fun c=>[.int .u8 (.ofNat c)]) m)) fun l=>some (V.str l)) (Nat.beq 1 1):Option V)=_
          simp only [on_some,ifT_some]
          exact ⟨hk,old,ht,l,hl,rfl⟩
  case call c=>
    obtain ⟨callee,as,ts⟩:=c
    cases callee <;> first | (cases hq;done) | skip
    rename_i b
    replace e:on (evOs as.toList σ) (fun as=>builtinX Pr b ts as h n kc)=some r:=e
    show ∃ v,on (evOs as.toList σ) (fun as=>builtinX Pr b ts as h .z fun v _ _=>some v)=some v∧kc v h n=some r
    rw [on_some] at e
    obtain ⟨vs,ha,e⟩:=e
    rw [ha]
    show ∃ v,builtinX Pr b ts vs h .z (fun v _ _=>some v)=some v∧kc v h n=some r
    cases b <;> first | (cases hq;done) | skip
    · unfold builtinX at e ⊢
      simp only at e ⊢
      cases h0:(ts[0]?).bind Pr.underlying with
      | none=>rw [h0] at e;cases e
      | some d=>
        rw [h0] at e
        cases d <;> first | (cases e;done) | skip
        obtain ⟨x,rfl,e1⟩:=arg1_some (r:=r) e
        rw [onSl_some] at e1
        rcases e1 with ⟨rfl,e2⟩ | ⟨b,i,l,c,rfl,e2⟩
        · exact ⟨_,rfl,e2⟩
        · cases c with
          | none=>cases e2
          | some c=>exact ⟨_,rfl,e2⟩
    · unfold builtinX at e ⊢
      simp only at e ⊢
      cases h0:(ts[0]?).bind Pr.underlying with
      | none=>rw [h0] at e;cases e
      | some d=>
        rw [h0] at e
        cases d <;> first | (cases e;done) | skip
        all_goals
          obtain ⟨x,rfl,e1⟩:=arg1_some (r:=r) e
          first
            | (rw [onStr_some] at e1
               obtain ⟨l,rfl,e2⟩:=e1
               exact ⟨_,rfl,e2⟩)
            | (rw [onSl_some] at e1
               rcases e1 with ⟨rfl,e2⟩ | ⟨b,i,l,c,rfl,e2⟩
               · exact ⟨_,rfl,e2⟩
               · exact ⟨_,rfl,e2⟩)
            | (rw [onMap_some] at e1
               rcases e1 with ⟨rfl,e2⟩ | ⟨b,rfl,e2⟩
               · exact ⟨_,rfl,e2⟩
               · obtain ⟨es,c,hB,e3⟩:=onMapB_some' (r:=r) e2
                 refine ⟨_,?_,e3⟩
                 show onMapB h b (fun es _=>some (V.int .i64 (.ofNat (lenL es))))=some _
                 unfold onMapB;rw [hB];rfl)
    · replace e:arg2 (fun x y h n k=>on (maxQ x y) fun c=>k c h n) vs h n kc=some r:=e
      obtain ⟨x,y,rfl,e1⟩:=arg2_some (r:=r) e
      rw [on_some] at e1
      obtain ⟨c,hc,e2⟩:=e1
      refine ⟨c,?_,e2⟩
      show on (maxQ x y) (fun c=>some c)=some _
      rw [hc];rfl
    · replace e:arg2 (fun x y h n k=>on (minQ x y) fun c=>k c h n) vs h n kc=some r:=e
      obtain ⟨x,y,rfl,e1⟩:=arg2_some (r:=r) e
      rw [on_some] at e1
      obtain ⟨c,hc,e2⟩:=e1
      refine ⟨c,?_,e2⟩
      show on (minQ x y) (fun c=>some c)=some _
      rw [hc];rfl
  all_goals first | (cases hq;done) | exact lift rfl rfl e
end
end Go.Lk
namespace Go.Lk
open Go.Eng Go.RowKit
section
variable {ρ:Ren} {Pr:Program} {m:Nat} {w0:Base} {w:World} {ty t t':TypeId} {σ:T V} {τ:Nat→Value} {h:T Blk} {n:P} {run:Run} {β:Type} [Jn β] {r:β} {kc:V→T Blk→P→Option β}
theorem app0 {e u:TypeId} {d:TypeDesc} {i:TypeInfo} {X:Value} {base:Option Addr} {sLen sCap:Nat} (ht:Pr.underlying t=some (.slice e)) (hd:Pr.underlying u=some d) (hdi:∀ k,d≠.int k) (hi:Pr.info? e=some i) (hl:(Builtin.lenOf X).run Pr w= .ok 0 w) (hf:(Builtin.firstCells i.size 0 X).run Pr w= .ok #[] w) (hle:sLen≤sCap) :
  (Builtin.append_ #[t,u] ty #[.slice base sLen sCap,X]).run Pr w= .ok (.slice base sLen sCap) w:=by
 have hm:(match d with | .int _=>true | _=>false)=false:=by cases d <;> first | exact absurd rfl (hdi _) | rfl
 cases base <;> simp [Builtin.append_,hm,run_underlying ht,run_underlying hd,sizeOf,typeInfo,hi,hl,hle,hf,storeCells]
theorem sl_shape {s:V} {S:Value} (hs:Rv ρ s S) (e:V.onSl (kc s h n) (fun _ _ _ _=>kc s h n) s=some r):kc s h n=some r∧∃ base a b,S= .slice base a b∧a≤b:=by
 have _:True:=(fun (_:Jn β)=>trivial) inferInstance
 rw [onSl_some] at e
 rcases e with ⟨rfl,e⟩ | ⟨b,i,l,c,rfl,e⟩
 ·simp only [Rv] at hs
  exact ⟨e,_,_,_,hs,Nat.le_refl _⟩
 ·simp only [Rv] at hs
  obtain ⟨L,c',_,hL,hs,_,h2,_⟩:=hs
  exact ⟨e,_,_,_,hs,h2⟩
theorem appSrc_sl {L:Loc} {i mm c kk:Nat} {new:List (List V)} {cs:List Value} (q1:cs.length=mm * kk) (q2:Cells w.heap L.c ((L.o+i) * L.k) cs) (q3:Rvs ρ new.flatten cs) (q4:∀ r ∈ new,r.length=kk) (hn:new.length=mm) :
  ∃ news,AppSrc Pr (.slice (some ⟨L.c,(L.o+i) * L.k,none⟩) mm c) mm kk news w∧Rvs ρ new.flatten news∧(∀ r ∈ new,r.length=kk)∧new.length=mm:=by
 have hcell:∀ (w':World),w'.heap=w.heap→∀ j v,cs[j]?=some v→w'.cell? ((⟨L.c,(L.o+i) * L.k,none⟩:Addr).add j)=some v:=fun w' hw j v hj=>by
  have hjl:=(List.getElem?_eq_some_iff.1 hj).1
  rw [add_addr]
  have:Cells w'.heap L.c ((L.o+i) * L.k) cs:=by rw [hw];exact q2
  rw [this.cell j hjl,(List.getElem?_eq_some_iff.1 hj).2]
 exact ⟨cs,⟨fun w'=>by simp [Builtin.lenOf],run_firstCells_some (P:=Pr) w kk mm _ mm c cs q1 (hcell w rfl),run_firstCells_some (P:=Pr) w.drew kk mm _ mm c cs q1 (hcell w.drew rfl),q1⟩,q3,q4,hn⟩
theorem appSrc_str {s:ByteArray} {l:List Nat} (hl:bytesOf s=l):∃ news,AppSrc Pr (.string s) l.length 1 news w∧Rvs ρ ((l.map fun c=>[V.int .u8 (.ofNat c)]).flatten) news:=by
 subst hl
 have hx:(s.extract 0 s.size)=s:=by simp
 have hlen:=bytesOf_len (s:=s)
 have hrun:∀ w:World,(Builtin.firstCells 1 (bytesOf s).length (.string s)).run Pr w= .ok ((bytesOf s).map fun c:Nat=>Value.int .u8 (c:Int)).toArray w:=fun w=>by
  rw [hlen]
  simp only [Builtin.firstCells,hx,Sem.run_pure]
  congr 1
  apply Array.ext'
  simp [bytesOf,List.map_map]
 refine ⟨(bytesOf s).map fun c:Nat=>Value.int .u8 (c:Int),⟨fun w'=>by rw [hlen];simp [Builtin.lenOf],hrun w,hrun w.drew,by simp⟩,?_⟩
 generalize bytesOf s=l
 induction l with
 | nil=>simp only [List.map_nil,List.flatten_nil,Rvs]
 | cons c l ih=>
  simp only [List.map_cons,List.flatten_cons,List.singleton_append,Rvs,Rv]
  exact ⟨_,_,rfl,rfl,ih⟩
theorem e_append' (H:Rh w0 ρ h n w) (f:Fr ρ m σ τ) {as:Array Operand} {ts:Array TypeId} {vs:List V} (ha:evOs as.toList σ=some vs) (e:builtinX Pr .append ts vs h n kc=some r) :
  Eff Pr (ev m τ) w (.call { callee:=.builtin .append,args:=as,argTypes:=ts }) ty (Kx w0 ρ r kc):=by
 unfold builtinX at e
 simp only at e
 cases h0:ts[0]? with
 | none=>rw [h0] at e;cases e
 | some t=>
  rw [h0] at e
  dsimp only at e
  cases hE:sliceE Pr t with
  | none=>rw [hE] at e;cases e
  | some a=>
   obtain ⟨el,kk,by_⟩:=a
   rw [hE] at e
   dsimp only at e
   obtain ⟨ht,hT⟩:=sliceE_spec hE
   obtain ⟨i,z,hi,hz,hzs,hpos,hby,hk1,hk2⟩:=elT_spec hT
   simp only at ht hi hk1 hk2
   subst hk1 hk2
   have fin:∀ {o p:Operand} {X S:Value} {u:TypeId},as=#[o,p]→ev m τ o=S→ev m τ p=X→(∀ args,Builtin.append_ ts ty args=Builtin.append_ #[t,u] ty args)→(∃ v w',(Builtin.append_ #[t,u] ty #[S,X]).run Pr w= .ok v w'∧Kx w0 ρ r kc v w')→Eff Pr (ev m τ) w (.call { callee:=.builtin .append,args:=as,argTypes:=ts }) ty (Kx w0 ρ r kc):=by
    rintro o p X S u rfl rfl rfl hts ⟨v,w',hrun,hK⟩
    exact ⟨v,w',hK,.inl fun _ _ _ _=>by simp [execOp,resolve,invoke,builtin,hts,hrun]⟩
   by_cases hts:ts=#[t,t]
   ·rw [if_pos hts] at e
    obtain ⟨s,x,rfl,e1⟩:=arg2_some (r:=r) e
    clear e
    obtain ⟨o,p,rfl,hs,hx⟩:=ops2 f ha
    refine fin rfl rfl rfl (fun _=>by rw [hts]) ?_
    generalize ev m τ o=S at hs
    generalize ev m τ p=X at hx
    unfold appendX at e1
    rw [onSl_some] at e1
    rcases e1 with ⟨rfl,e1⟩ | ⟨b,j,mm,c,rfl,e1⟩
    ·obtain ⟨e2,base,a,b,rfl,hab⟩:=sl_shape hs e1
     simp only [Rv] at hx
     subst hx
     exact ⟨_,w,app0 ht ht (by intros;simp) hi (by simp [Builtin.lenOf]) (by simp [Builtin.firstCells]) hab,ρ,s,h,n,.refl _,H,hs,e2⟩
    ·rw [if_some] at e1
     rcases e1 with ⟨h1,e1⟩ | ⟨h1,e1⟩
     ·have:=Nat.eq_of_beq_eq_true h1
      subst this
      obtain ⟨e2,base,a,b',rfl,hab⟩:=sl_shape hs e1
      simp only [Rv] at hx
      obtain ⟨L,c',_,hL,rfl,_⟩:=hx
      exact ⟨_,w,app0 ht ht (by intros;simp) hi (by simp [Builtin.lenOf]) (by simp [Builtin.firstCells,loadCells,loadCellsFrom]) hab,ρ,s,h,n,.refl _,H,hs,e2⟩
     ·have hp:0<mm:=Nat.pos_of_ne_zero fun h'=>by subst h';cases h1
      have hX:=hx
      simp only [Rv] at hX
      obtain ⟨L,c',pp,hL,rfl,hpl,_⟩:=hX
      obtain rfl:=(hpl.pos hp).symm
      obtain ⟨new,e2,_,hn,hcs⟩:=sliceRows2_some (β:=β) H hL e1
      obtain ⟨cs,q1,q2,q3,q4⟩:=hcs hp
      obtain ⟨news,g1,g2,g3,g4⟩:=appSrc_sl (Pr:=Pr) (c:=c') q1 q2 q3 q4 hn
      exact appendR_sound H ht ⟨_,ht,by intros;simp⟩ hi hz hzs hpos hby hs g1 g2 g3 g4 hp e2
   ·rw [if_neg hts] at e
    generalize hkk:i.size=kk at e
    generalize hu:(ts[1]?).bind Pr.underlying=d at e
    rcases d with _ | d
    ·cases e
    cases d <;> first | (cases e;done) | skip
    match kk,hkk,e with
    | 0,_,e=>cases e
    | k+2,_,e=>cases e
    | 1,hkk,e=>
     replace e:arg2 (fun s x h n k=>V.onStr (fun l=>appendS el 1 i.bytes s l h n k) x) vs h n kc=some r:=e
     obtain ⟨s,x,rfl,e1⟩:=arg2_some (r:=r) e
     clear e
     obtain ⟨o,p,rfl,hs,hx⟩:=ops2 f ha
     rw [onStr_some] at e1
     obtain ⟨l,rfl,e2⟩:=e1
     simp only [Rv] at hx
     obtain ⟨sv,hx,hl⟩:=hx
     cases h1:ts[1]? with
     | none=>rw [h1] at hu;cases hu
     | some u=>
      rw [h1] at hu
      simp only [Option.bind_some] at hu
      refine fin rfl rfl hx (fun args=>by simp only [Builtin.append_,h0,h1];rfl) ?_
      generalize ev m τ o=S at hs
      unfold appendS at e2
      rw [if_some,lenL_eq,mapL_eq] at e2
      rcases e2 with ⟨q1,e2⟩ | ⟨q1,e2⟩
      ·have:=Nat.eq_of_beq_eq_true q1
       obtain ⟨e3,base,a,b',rfl,hab⟩:=sl_shape hs e2
       have hs0:sv.size=0:=by rw [← bytesOf_len,hl];exact this
       exact ⟨_,w,app0 ht hu (by intros;simp) hi (by simp [Builtin.lenOf,hs0]) (by simp [Builtin.firstCells]) hab,ρ,s,h,n,.refl _,H,hs,e3⟩
      ·have hp:0<l.length:=Nat.pos_of_ne_zero fun h'=>by rw [h'] at q1;cases q1
       obtain ⟨news,g1,g2⟩:=appSrc_str (Pr:=Pr) (ρ:=ρ) (w:=w) hl
       rw [← hkk] at g1 e2
       exact appendR_sound H ht ⟨_,hu,by intros;simp⟩ hi hz hzs hpos hby hs g1 g2 (by intro r hr;obtain ⟨c,_,rfl⟩:=List.mem_map.1 hr;rw [hkk];rfl) (by simp) hp e2
theorem e_clear' (H:Rh w0 ρ h n w) (f:Fr ρ m σ τ) {as:Array Operand} {ts:Array TypeId} {vs:List V} (ha:evOs as.toList σ=some vs) (e:builtinX Pr .clear ts vs h n kc=some r) :
  Eff Pr (ev m τ) w (.call { callee:=.builtin .clear,args:=as,argTypes:=ts }) ty (Kx w0 ρ r kc):=by
 have hu0:Rv ρ (.tup []) (.tuple #[]):=by simp only [Rv];exact ⟨#[],rfl,by simp only [Rvs]⟩
 unfold builtinX at e
 simp only at e
 cases h0:ts[0]? with
 | none=>rw [h0] at e;cases e
 | some t=>
  rw [h0] at e
  simp only [Option.bind_some] at e
  cases hu:Pr.underlying t with
  | none=>rw [hu] at e;cases e
  | some d=>
   rw [hu] at e
   cases d <;> first | (cases e;done) | skip
   case slice el0=>
    simp only at e
    cases hB:sliceB Pr t with
    | none=>rw [hB] at e;cases e
    | some a=>
     obtain ⟨el,kk,z⟩:=a
     rw [hB] at e
     obtain ⟨x,rfl,e1⟩:=arg1_some (r:=r) e
     obtain ⟨o,rfl,hx⟩:=ops1 f ha
     obtain ⟨hu',hZ⟩:=sliceB_spec hB
     rw [hu] at hu'
     dsimp only at hu' hZ
     cases hu'
     obtain ⟨i,zr,hi,hz,hk,hpos,hzl,hzv⟩:=elZ_spec hZ
     simp only at hi hk hpos hzl hzv
     subst hk
     have hzv:=hzv ρ
     have hzs:zr.cells.size=i.size:=by have:=hzv.length;rw [Array.length_toList] at this;omega
     rw [onSl_some] at e1
     rcases e1 with ⟨rfl,e1⟩ | ⟨b,j,len,c,rfl,e1⟩
     ·simp only [Rv] at hx
      exact ⟨.tuple #[],w,⟨ρ,_,_,_,.refl _,H,hu0,e1⟩,.inl fun _ _ _ _=>by simp [execOp,resolve,invoke,builtin,hx,Builtin.clear_,h0,run_underlying hu]⟩
     ·rw [if_some] at e1
      simp only [Rv] at hx
      obtain ⟨L,cc,pp,hL,hx,hc,hle,hfit⟩:=hx
      rcases e1 with ⟨g,e1⟩ | ⟨g,e1⟩
      ·have:=Nat.eq_of_beq_eq_true g
       subst this
       exact ⟨.tuple #[],w,⟨ρ,_,_,_,.refl _,H,hu0,e1⟩,.inl fun _ _ _ _=>by simp [execOp,resolve,invoke,builtin,hx,Builtin.clear_,h0,run_underlying hu]⟩
      ·have hne:len≠0:=fun h'=>by subst h';cases g
       obtain rfl:=(hc.pos (by omega)).symm
       rw [ifT_some,flatL_eq,repL_eq] at e1
       obtain ⟨hones,e1⟩:=e1
       obtain ⟨t',op,rs,old,hB',hlen,ho,e1⟩:=sliceRows_some (β:=β) e1
       have hk:=H.width hB' hL
       unfold writeRows at e1
       simp only [on_some,onRows_some] at e1
       obtain ⟨h',⟨B,hB2,t2,k2,op2,rs2,rfl,rs',hov,hh⟩,e1⟩:=e1
       cases hh
       rw [hB'] at hB2
       cases hB2
       have hlive:=H.live b _ L hB' hL
       obtain ⟨_,arr,harr,hsz,_⟩:=hlive
       have hlive:=H.live b _ L hB' hL
       rw [harr] at hlive
       have hnv:Rvs ρ (List.replicate len z).flatten (madeCells zr.cells (len * i.size)).toList:=by
        rw [madeCells_flat zr.cells len i.size hzs hpos];exact hzv.repeat len
       obtain ⟨g1,g2⟩:=Rb.writeRows hlive hov hnv (fun r hr=>by rw [(List.mem_replicate.1 hr).2];exact hzl)
       have hblk:Go.Eng.Blk w.heap L.c arr.toList t':=by unfold Go.Eng.Blk;rw [harr]
       have hone:∀ u ∈ (madeCells zr.cells (len * i.size)).toList,One u:=onesV_one hones hnv
       obtain ⟨w',hp,hst⟩:=run_storeCells (P:=Pr) (madeCells zr.cells (len * i.size)).toList 0 ((L.o+j) * L.k) arr.toList w hblk (by simpa using g1) hone
       rw [Nat.add_zero] at hp
       have hzc:Builtin.zeroCells zr.cells len=madeCells zr.cells (len * i.size):=by unfold Builtin.zeroCells madeCells;rw [hzs]
       have hrun:(Builtin.clear_ ts ty #[.slice (some ⟨L.c,(L.o+j) * L.k,none⟩) len cc]).run Pr w= .ok (.tuple #[]) w':=by
        obtain ⟨q,rfl⟩:∃ q,len=q+1:=⟨len-1,by omega⟩
        simp [Builtin.clear_,h0,run_underlying hu,zeroValue,typeInfo,hi,hz,hzc,hst]
       exact ⟨.tuple #[],w',⟨ρ,_,_,_,.refl _,H.turn hB' hL hp g2,hu0,e1⟩,.inl fun _ _ _ _=>by simp [execOp,resolve,invoke,builtin,hx,hrun]⟩
   case map k el=>
    obtain ⟨x,rfl,e1⟩:=arg1_some (r:=r) e
    obtain ⟨o,rfl,hx⟩:=ops1 f ha
    rw [onMap_some] at e1
    rcases e1 with ⟨rfl,e2⟩ | ⟨b,rfl,e2⟩
    ·simp only [Rv] at hx
     exact ⟨.tuple #[],w,⟨ρ,_,_,_,.refl _,H,hu0,e2⟩,.inl fun _ _ _ _=>by simp [execOp,resolve,invoke,builtin,hx,Builtin.clear_,h0,run_underlying hu]⟩
    ·obtain ⟨es,c,hB,e3⟩:=onMapB_some' (r:=r) e2
     simp only [Rv] at hx
     obtain ⟨L,hL,hx⟩:=hx
     obtain ⟨l,hl,hr,_⟩:=H.live b _ L hB hL
     have hget:(getObj L.c).run Pr w= .ok (.map l c) w:=by simp [getObj,Sem.run,hl]
     exact ⟨.tuple #[],_,⟨ρ,_,_,_,.refl _,map_turn (l':=#[]) H hB hL .nil (by simp),hu0,e3⟩,.inl fun _ _ _ _=>by simp [execOp,resolve,invoke,builtin,hx,Builtin.clear_,h0,run_underlying hu,hget,setObj_run hl (by intros;simp)]⟩
end
end Go.Lk
namespace Go.Lk
open Go.Eng Go.RowKit
section
variable {ρ:Ren} {Pr:Program} {m:Nat} {w0:Base} {w:World} {ty t t':TypeId} {σ:T V} {τ:Nat→Value} {h:T Blk} {n:P} {run:Run} {β:Type} [Jn β] [JnOK β] {r:β} {kc:V→T Blk→P→Option β}
theorem upon_eff {F':Fence} {op:Op} {K:Value→World→Prop} (he:Eff Pr (ev m τ) w op ty K) {dst:Option Nat} {pos:String} {af:Array Edge} {g:Option (Nat × Bool)} {ds:List Deferred} {next:Act→World→Prop} {Q:Exit→Act→World→Prop}
  (hK:∀ x w',K x w'→next ((F m τ ds).put dst x) w'):Oper.uponIn F' 0 Pr ⟨dst,op,ty,pos,af,g⟩ (F m τ ds) next Q ((execOp (F m τ ds).eval ⟨dst,op,ty,pos,af,g⟩).run Pr w):=by
 obtain ⟨v,w',k,h1⟩:=he
 rw [F_eval]
 rcases h1 with h1 | ⟨rfl,h1⟩
 ·rw [h1,Oper.uponIn_value];exact hK _ _ k
 ·rw [h1,Oper.uponIn_skip];exact hK _ _ k
theorem call_ok (hr:RunOK Pr run) {rr:Option Nat} (f:Fr ρ m σ τ) (H:Rh w0 ρ h n w) {fo:Operand} {as:Array Operand} {ts:Array TypeId} (e:(on (evO fo σ) fun f=>on (evOs as.toList σ) fun as=>callV run f as h n kc)=some r)
  {dst:Option Nat} {pos:String} {af:Array Edge} {g:Option (Nat × Bool)} {ds:List Deferred} {next:Act→World→Prop} {Q:Exit→Act→World→Prop}
  (hK:∀ x w',Kx w0 ρ r kc x w'→next ((F m τ ds).put dst x) w'):Oper.uponIn (Fw rr) 0 Pr ⟨dst,.call { callee:=.value fo,args:=as,argTypes:=ts },ty,pos,af,g⟩ (F m τ ds) next Q ((execOp (F m τ ds).eval ⟨dst,.call { callee:=.value fo,args:=as,argTypes:=ts },ty,pos,af,g⟩).run Pr w):=by
 have _:True:=(fun (_:JnOK β)=>trivial) inferInstance
 simp only [on_some] at e
 obtain ⟨fv,hfv,vs,hvs,e⟩:=e
 have hfr:=evO_sound f hfv
 have hvr:=evOs_sound f hvs
 unfold callV at e
 rw [onFn_some] at e
 rw [F_eval]
 rcases e with ⟨fi,a,b,rfl,e⟩ | ⟨l,rfl,e⟩
 ·rw [on_some] at e
  obtain ⟨⟨v,h',n'⟩,e1,e2⟩:=e
  replace e2:kc v h' n'=some r:=e2
  simp only [Rv] at hfr
  obtain ⟨a',b',hfr,hx,hy⟩:=hfr
  have hargs:Rvs ρ (appL a (appL vs b)) (a'++as.map (ev m τ)++b').toList:=by
   simp only [appL_eq,Array.toList_append,Array.toList_map,List.append_assoc]
   exact hx.append (hvr.append hy)
  have fin:∀ e w',RQ w0 ρ (v,h',n') e w'→∃ x,e= .returned x∧next ((F m τ ds).put dst x) w':=by
   rintro e w' ⟨x,ρ',rfl,hle,H',hv⟩
   exact ⟨x,rfl,hK _ _ ⟨ρ',v,h',n',hle,H',hv,e2⟩⟩
  rcases hr.call fi _ _ _ _ e1 w0 ρ w _ H hargs with ⟨hcf,hcall⟩ | ⟨_,x,w',hrun,hq⟩
  ·have hrun:(execOp (ev m τ) ⟨dst,.call { callee:=.value fo,args:=as,argTypes:=ts },ty,pos,af,g⟩).run Pr w= .ok (.enter fi (a'++as.map (ev m τ)++b')) w:=by
    have:=hcf (a'++as.map (ev m τ)++b') w
    simp only [Array.append_assoc] at this
    simp [execOp,resolve,hfr,Deferred.ofValue,invoke,this]
   rw [hrun,Oper.uponIn_enter]
   refine ⟨Fw_depth rr,callsIn_fw (hcall.mono fun e w' q=>?_)⟩
   obtain ⟨x,rfl,hn⟩:=fin e w' q
   exact hn
  ·have hrun':(execOp (ev m τ) ⟨dst,.call { callee:=.value fo,args:=as,argTypes:=ts },ty,pos,af,g⟩).run Pr w= .ok (.value x) w':=by
    simp only [Array.append_assoc] at hrun
    simp [execOp,resolve,hfr,Deferred.ofValue,invoke,hrun]
   rw [hrun',Oper.uponIn_value]
   obtain ⟨y,hy,hn⟩:=fin _ _ hq
   cases hy;exact hn
 ·rw [on_some] at e
  obtain ⟨⟨v,h',n'⟩,e1,e2⟩:=e
  replace e2:kc v h' n'=some r:=e2
  simp only [Rv] at hfr
  obtain ⟨L,hL,hfr⟩:=hfr
  obtain ⟨rec,h1,h2,h3⟩:=hr.round l _ _ _ _ e1 w0 ρ w (as.map (ev m τ)) L H (by rw [Array.toList_map];exact hvr) hL
  have hy:=run_yield (P:=Pr) h1 h2
  have hrun:(execOp (ev m τ) ⟨dst,.call { callee:=.value fo,args:=as,argTypes:=ts },ty,pos,af,g⟩).run Pr w= .ok (.round L.c rec.fn ((rec.params.zip (as.map (ev m τ))).foldl (fun tmps (t,a)=>tmps.setIfInBounds t a) rec.tmps) rec.assign rec.body) w:=by
   simp [execOp,resolve,hfr,Deferred.ofValue,invoke,hy]
  rw [hrun,Oper.uponIn_round]
  refine ⟨Fw_depth rr,?_⟩
  have h4:RoundIn (Fw rr) 0 Pr L.c rec.fn ((rec.params.zip (as.map (ev m τ))).foldl (fun tmps (t,a)=>tmps.setIfInBounds t a) rec.tmps) rec.assign rec.body w (RQ w0 ρ (v,h',n')):=by cases rr <;> exact h3
  refine h4.mono fun e w' q=>?_
  obtain ⟨x,ρ',rfl,hle,H',hv⟩:=q
  exact hK _ _ ⟨ρ',v,h',n',hle,H',hv,e2⟩
theorem onIface_some {β:Type} {r:β} {f:TypeId→V→Option β} {v:V} (e:V.onIface f v=some r):∃ t x,v= .iface t x∧f t x=some r:=by
 cases v <;> first | exact ⟨_,_,rfl,e⟩ | cases e
theorem methT_run {t:TypeId} {name:String} {f:FuncId} (e:methT Pr t name=some f) (v:Value) (w:World):(Go.method (Pr.types.size+Made.depth) t v name).run Pr w= .ok (f,v) w:=by
 unfold methT at e
 cases hi:Pr.info? t with
 | none=>rw [hi] at e;cases e
 | some i=>
  rw [hi] at e
  simp only at e
  cases hm:i.methods.find? (·.name == name) with
  | none=>rw [hm] at e;cases e
  | some mt=>
   rw [hm] at e
   simp only at e
   split at e
   ·rename_i hp hf hu
    cases e
    rw [show Pr.types.size+Made.depth=Nat.succ (Pr.types.size+(Made.depth-1)) from rfl]
    simp [Go.method,typeInfo,hi,hm,hp,hf,follow,receiverAt,run_underlying hu,Place.get]
   ·cases e
theorem invoke_ok (hr:RunOK Pr run) {rr:Option Nat} (f:Fr ρ m σ τ) (H:Rh w0 ρ h n w) {xo:Operand} {name:String} {as:Array Operand} {ts:Array TypeId} (e:(on (evO xo σ) fun x=>on (evOs as.toList σ) fun as=>V.onIface (fun t y=>on (methT Pr t name) fun f=>callV run (.fn f [y] []) as h n kc) x)=some r)
  {dst:Option Nat} {pos:String} {af:Array Edge} {g:Option (Nat × Bool)} {ds:List Deferred} {next:Act→World→Prop} {Q:Exit→Act→World→Prop}
  (hK:∀ x w',Kx w0 ρ r kc x w'→next ((F m τ ds).put dst x) w'):Oper.uponIn (Fw rr) 0 Pr ⟨dst,.call { callee:=.invoke xo name,args:=as,argTypes:=ts },ty,pos,af,g⟩ (F m τ ds) next Q ((execOp (F m τ ds).eval ⟨dst,.call { callee:=.invoke xo name,args:=as,argTypes:=ts },ty,pos,af,g⟩).run Pr w):=by
 have _:True:=(fun (_:JnOK β)=>trivial) inferInstance
 simp only [on_some] at e
 obtain ⟨xv,hxv,vs,hvs,e⟩:=e
 have e9:=onIface_some e
 clear e
 obtain ⟨t,y,rfl,e⟩:=e9
 rw [on_some] at e
 obtain ⟨fi,hfi,e⟩:=e
 have hxr:=evO_sound f hxv
 have hvr:=evOs_sound f hvs
 unfold callV at e
 rw [onFn_some] at e
 rw [F_eval]
 rcases e with ⟨fi',a,b,heq,e⟩ | ⟨l,heq,e⟩
 ·cases heq
  rw [on_some] at e
  obtain ⟨⟨v,h',n'⟩,e1,e2⟩:=e
  replace e2:kc v h' n'=some r:=e2
  simp only [Rv] at hxr
  obtain ⟨yv,hxr,hy⟩:=hxr
  have hargs:Rvs ρ (appL [y] (appL vs [])) (#[yv]++as.map (ev m τ)).toList:=by
   simp only [appL_eq,List.append_nil,Array.toList_append,Array.toList_map,List.cons_append,List.nil_append]
   simp only [Rvs]
   exact ⟨_,_,rfl,hy,hvr⟩
  have fin:∀ e w',RQ w0 ρ (v,h',n') e w'→∃ x,e= .returned x∧next ((F m τ ds).put dst x) w':=by
   rintro e w' ⟨x,ρ',rfl,hle,H',hv⟩
   exact ⟨x,rfl,hK _ _ ⟨ρ',v,h',n',hle,H',hv,e2⟩⟩
  have hm:=methT_run hfi yv w
  have hexec:(execOp (ev m τ) ⟨dst,.call { callee:=.invoke xo name,args:=as,argTypes:=ts },ty,pos,af,g⟩).run Pr w=(callFunc fi (#[yv]++as.map (ev m τ))).run Pr w:=by
   have h1:(#[Value.iface t yv]++as.map (ev m τ)).extract 1 (#[Value.iface t yv]++as.map (ev m τ)).size=as.map (ev m τ):=by
    apply Array.ext'
    simp only [Array.toList_extract,Array.toList_append,Array.toList_map,Array.size_append,Array.size_map,List.cons_append,List.nil_append,List.extract_eq_take_drop,List.drop_succ_cons,List.drop_zero,List.size_toArray,List.length_cons,List.length_nil]
    exact List.take_of_length_le (by simp)
   have h2:(#[Value.iface t yv]++as.map (ev m τ))[0]?=some (Value.iface t yv):=by rw [← Array.getElem?_toList,Array.toList_append];rfl
   simp only [execOp,resolve,hxr,invoke,Sem.run_bind,Sem.run_pure,Result.andThen_ok]
   rw [h2,h1]
   simp only [callMethod,Sem.run_bind,run_program,Result.andThen_ok]
   rw [hm]
   rfl
  rcases hr.call fi _ _ _ _ e1 w0 ρ w _ H hargs with ⟨hcf,hcall⟩ | ⟨_,x,w',hrun,hq⟩
  ·rw [hexec,hcf,Oper.uponIn_enter]
   refine ⟨Fw_depth rr,callsIn_fw (hcall.mono fun e w' q=>?_)⟩
   obtain ⟨x,rfl,hn⟩:=fin e w' q
   exact hn
  ·rw [hexec,hrun,Oper.uponIn_value]
   obtain ⟨y,hy,hn⟩:=fin _ _ hq
   cases hy;exact hn
 ·cases heq
theorem ops_ok (β:Type) [Jn β] [JnOK β] (Pr:Program) (m:Nat):OpsOK β Pr m:=by
 intro op ty run hr rr w0 ρ σ τ h n kc r w f H e hnd dst pos af g ds next Q hK
 cases hq:quietOp Pr op with
 | true=>
  obtain ⟨v,h1,h2⟩:=quiet_cps hq e
  obtain ⟨u,h3,h4⟩:=quiet_ok (ty:=ty) H f hq h1
  exact upon_eff (K:=Kx w0 ρ r kc) ⟨u,w,⟨ρ,v,h,n,.refl _,H,h4,h2⟩,.inl h3⟩ hK
 | false=>
  cases op
  case alloc t=>
   replace e:(Option.rec (fun _ _ _ _ _=>none) (fun z _ _ h n k=>newB (rowB t z) (.ptr n 0 0) h n k) (zcT Pr t):OX β) run σ h n kc=some r:=e
   cases hz:zcT Pr t with
   | none=>rw [hz] at e;cases e
   | some z=>rw [hz] at e;exact upon_eff (e_alloc' H hz e) hK
  case box t x=>exact upon_eff (e_box' H f e) hK
  case buildSlice t len parts=>exact upon_eff (e_buildSlice' (run:=run) H f e) hK
  case insert t mo ko vo=>exact upon_eff (e_mapUpdate' H f e).2 hK
  case store t a x=>exact upon_eff (e_store' (run:=run) H f e) hK
  case convert s d x=>
   unfold quietOp at hq
   simp only at hq
   refine upon_eff (e_convB H f (fun k hk=>?_) (fun hk=>?_) (fun b hk=>?_) e) hK <;> (rw [hk] at hq;cases hq)
  case makeMap t rs=>
   cases rs with
   | none=>exact upon_eff (e_makeMap' H e) hK
   | some x=>exact upon_eff (e_makeMapR H f e) hK
  case makeSlice t l c=>exact upon_eff (e_makeSlice' (run:=run) H f e) hK
  case mapUpdate t mo ko vo=>exact upon_eff (e_mapUpdate' H f e).1 hK
  case mapEntry t mo ko=>exact upon_eff (e_mapEntry' H f e) hK
  case entryStore t mo so vo=>exact upon_eff (e_entryStore' H f e) hK
  case range t x=>exact upon_eff (e_range' H f e) hK
  case next it s=>
   cases s with
   | true=>exact upon_eff (e_nextStr (run:=run) H f e) hK
   | false=>exact upon_eff (e_nextMap (run:=run) H f e) hK
  case call c=>
   obtain ⟨callee,as,ts⟩:=c
   cases callee with
   | value fo=>exact call_ok hr f H e hK
   | invoke xo name=>exact invoke_ok hr f H e hK
   | builtin b=>
    replace e:on (evOs as.toList σ) (fun as=>builtinX Pr b ts as h n kc)=some r:=e
    rw [on_some] at e
    obtain ⟨vs,ha,e⟩:=e
    cases b <;> first | (cases hq;done) | (cases e;done) | exact upon_eff (e_append' H f ha e) hK | exact upon_eff (e_clear' H f ha e) hK
  case defer c=>cases hnd
  all_goals first | (cases hq;done) | (cases e;done)
end
end Go.Lk
