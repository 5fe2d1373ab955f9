/- A part of the engine: steps over the model. Over any program. -/
import Derived.Test.YtljfgmedbjlkaaaGreatOps
namespace Go.Eng
open Go.RowKit
/-! ### The world turned -/
/-- one new block -/
structure Al (w w':World) (o:Obj):Prop where
 eq:w'=w.alloc o
/-- block b is another one -/
structure Pt (w w':World) (b:Nat) (o:Obj):Prop where
 lt:b<w.heap.size
 eq:w'={ w with heap:=w.heap.setIfInBounds b o }
/-- nothing that was there has turned -/
abbrev Ext (w w':World):Prop:=Below w.heap.size w w'
/-- a block's cells, none of them frozen -/
def Blk (h:Array Obj) (b:Nat) (cs:List Value) (T:TypeId):Prop:=h[b]?=some (.cells cs.toArray T (0,0))
theorem Blk.lt {h:Array Obj} {b:Nat} {cs:List Value} {T:TypeId} (hb:Blk h b cs T):b<h.size:=(Array.getElem?_eq_some_iff.1 hb).1
theorem Blk.cells {h:Array Obj} {b:Nat} {cs:List Value} {T:TypeId} (hb:Blk h b cs T) (o:Nat) (vs:List Value) (hv:∀ j (_:j<vs.length),cs[o+j]?=some vs[j]):Cells h b o vs:=
 ⟨_,_,_,hb,fun j hj=>by rw [List.getElem?_toArray];exact hv j hj⟩
theorem Blk.one {h:Array Obj} {b:Nat} {cs:List Value} {T:TypeId} (hb:Blk h b cs T) (o:Nat) {v:Value} (hv:cs[o]?=some v):Cells h b o [v]:=
 hb.cells o [v] (fun j hj=>by have:j=0:=(by simpa using hj);subst this;simpa using hv)
theorem Al.size {w w':World} {o:Obj} (h:Al w w' o):w'.heap.size=w.heap.size+1:=by rw [h.eq];show (w.heap.push o).size=_;simp
theorem Al.new {w w':World} {o:Obj} (h:Al w w' o):w'.heap[w.heap.size]?=some o:=by rw [h.eq];show (w.heap.push o)[_]?=_;simp
theorem Al.old {w w':World} {o:Obj} (h:Al w w' o) {b:Nat} (hb:b<w.heap.size):w'.heap[b]?=w.heap[b]? :=by rw [h.eq];show (w.heap.push o)[_]?=_;simp [Array.getElem?_push,Nat.ne_of_lt hb]
theorem Al.ext {w w':World} {o:Obj} (h:Al w w' o):Ext w w':=by rw [h.eq];exact (Below.refl _ _).alloc (Nat.le_refl _) o
theorem Pt.size {w w':World} {b:Nat} {o:Obj} (h:Pt w w' b o):w'.heap.size=w.heap.size:=by rw [h.eq];simp
theorem Pt.new {w w':World} {b:Nat} {o:Obj} (h:Pt w w' b o):w'.heap[b]?=some o:=by rw [h.eq];simp [h.lt]
theorem Pt.old {w w':World} {b:Nat} {o:Obj} (h:Pt w w' b o) {c:Nat} (hc:c≠b):w'.heap[c]?=w.heap[c]? :=by rw [h.eq];exact Array.getElem?_setIfInBounds_ne (Ne.symm hc)
theorem Pt.below {B:Nat} {w0 w w':World} {b:Nat} {o:Obj} (h:Pt w w' b o) (hb:Below B w0 w) (hB:B≤b):Below B w0 w':=
 hb.trans ⟨by rw [h.eq],by rw [h.eq],by rw [h.eq],by rw [h.size];exact Nat.le_refl _,fun k hk=>h.old (by omega)⟩
/-- a block that has not turned -/
theorem Blk.keep {h h':Array Obj} {b:Nat} {cs:List Value} {T:TypeId} (hb:Blk h b cs T) (e:h'[b]?=h[b]?):Blk h' b cs T:=e.trans hb
theorem Cells.keep {h h':Array Obj} {b o:Nat} {cs:List Value} (hb:Cells h b o cs) (e:h'[b]?=h[b]?):Cells h' b o cs:=by
 obtain ⟨c,t,fr,h1,h2⟩:=hb
 exact ⟨c,t,fr,e.trans h1,h2⟩
theorem Cells.ext {w w':World} {b o:Nat} {cs:List Value} (hb:Cells w.heap b o cs) (h:Ext w w'):Cells w'.heap b o cs:=hb.keep (h.block b hb.lt)
section
variable {P:Program} {n:Nat} {σ:Nat→Value} {w:World} {ty t:TypeId} {K:Value→World→Prop} {x y:Operand}
theorem e_alloc {z:Value} (hz:ZV P t z) (k:∀ w',Al w w' (.cells z.cells t)→K (.pointer (some ⟨w.heap.size,0,none⟩)) w'):Eff P (ev n σ) w (.alloc t) ty K:=by
 refine ⟨_,_,k (w.alloc (.cells z.cells t)) ⟨rfl⟩,.inl fun _ _ _ _=>?_⟩
 have h:=hz w
 simp [execOp,Instr.alloc,h,newVar,newRow,newObj,Sem.run]
theorem e_box {v:Value} (hx:ev n σ x=v) (k:∀ w',Al w w' (.cells v.cells t)→K (.pointer (some ⟨w.heap.size,0,none⟩)) w'):Eff P (ev n σ) w (.box t x) ty K:=by
 subst hx
 refine ⟨_,_,k (w.alloc (.cells (ev n σ x).cells t)) ⟨rfl⟩,.inl fun _ _ _ _=>?_⟩
 simp [execOp,Instr.box,newVar,newRow,newObj,Sem.run]
/-- a list written into a list from place o on -/
def splice (cs:List Value) (o:Nat) (vs:List Value):List Value:=cs.take o++vs++cs.drop (o+vs.length)
theorem splice_length {cs vs:List Value} {o:Nat} (h:o+vs.length≤cs.length):(splice cs o vs).length=cs.length:=by
 simp only [splice,List.length_append,List.length_take,List.length_drop];omega
/-- a value of one cell, or of cells each of which is one -/
def One (v:Value):Prop:=∀ cs,v≠.agg cs∧v≠.tuple cs
theorem run_storeCells {P:Program} {b:Nat} {T:TypeId}:∀ (vs:List Value) (i o:Nat) (cs:List Value) (w:World),Blk w.heap b cs T→o+i+vs.length≤cs.length→(∀ v ∈ vs,One v)→
  ∃ w',Pt w w' b (.cells (splice cs (o+i) vs).toArray T (0,0))∧(storeCells ⟨b,o,none⟩ vs i).run P w= .ok () w'
 | [],i,o,cs,w,hb,hl,h1=>by
  refine ⟨w,⟨hb.lt,?_⟩,by simp [storeCells]⟩
  have e:splice cs (o+i) []=cs:=by simp [splice]
  rw [e]
  have:w.heap.setIfInBounds b (.cells cs.toArray T (0,0))=w.heap:=by
   apply Array.ext_getElem?
   intro k
   by_cases hk:b=k
   ·subst hk;rw [Array.getElem?_setIfInBounds_self,if_pos hb.lt];exact hb.symm
   ·rw [Array.getElem?_setIfInBounds_ne hk]
  rw [this]
 | v::vs,i,o,cs,w,hb,hl,h1=>by
  have hv:=h1 v (List.mem_cons_self)
  have hlen:o+i<cs.length:=by simp only [List.length_cons] at hl;omega
  have hc:w.cell? ⟨b,o+i,none⟩=some cs[o+i]:=by
   simp only [World.cell?];rw [hb];simp [hlen]
  have hf:w.frozen? ⟨b,o+i,none⟩=false:=by
   simp only [World.frozen?];rw [hb];simp
  have hset:(w.setCell ⟨b,o+i,none⟩ v).heap[b]?=some (.cells (cs.set (o+i) v).toArray T (0,0)):=by
   simp only [World.setCell,Array.getElem?_modify,if_true]
   rw [hb]
   simp
  have hPt:Pt w (w.setCell ⟨b,o+i,none⟩ v) b (.cells (cs.set (o+i) v).toArray T (0,0)):=by
   refine ⟨hb.lt,?_⟩
   have:(w.setCell ⟨b,o+i,none⟩ v).heap=w.heap.setIfInBounds b (.cells (cs.set (o+i) v).toArray T (0,0)):=by
    apply Array.ext_getElem?
    intro k
    by_cases hk:b=k
    ·subst hk;rw [Array.getElem?_setIfInBounds_self,if_pos hb.lt];exact hset
    ·rw [Array.getElem?_setIfInBounds_ne hk]
     simp only [World.setCell,Array.getElem?_modify,hk,if_false]
   rw [← this];rfl
  obtain ⟨w',hp,hr⟩:=run_storeCells (P:=P) vs (i+1) o (cs.set (o+i) v) (w.setCell ⟨b,o+i,none⟩ v) hset (by rw [List.length_set];simp only [List.length_cons] at hl;omega) (fun u hu=>h1 u (List.mem_cons_of_mem _ hu))
  refine ⟨w',⟨hb.lt,?_⟩,?_⟩
  ·rw [hp.eq,hPt.eq]
   have e:splice (cs.set (o+i) v) (o+(i+1)) vs=splice cs (o+i) (v::vs):=by
    simp only [splice,List.length_cons]
    have e1:List.take (o+(i+1)) (cs.set (o+i) v)=List.take (o+i) cs++[v]:=by
     rw [← Nat.add_assoc,List.take_succ_eq_append_getElem (by rw [List.length_set];exact hlen)]
     rw [List.take_set_of_le (Nat.le_refl _)]
     simp
    have e2:List.drop (o+(i+1)+vs.length) (cs.set (o+i) v)=List.drop (o+i+(vs.length+1)) cs:=by
     rw [List.drop_set_of_lt (by omega)]
     congr 1
     omega
    rw [e1,e2]
    simp
   rw [e]
   simp
  ·simp only [storeCells,store,add_addr,Sem.run_bind]
   have:(Sem.store .plain ⟨b,o+i,none⟩ v (.pure ())).run P w= .ok () (w.setCell ⟨b,o+i,none⟩ v):=by
    cases v <;> first | exact absurd rfl (hv _).1 | exact absurd rfl (hv _).2 | simp [Sem.run,hc,hf]
   rw [this]
   simp only [Result.andThen_ok]
   exact hr
theorem e_store {b o:Nat} {v:Value} {cs:List Value} {T:TypeId} (hs:SZ P t v.cells.size) (hx:ev n σ x= .pointer (some ⟨b,o,none⟩)) (hy:ev n σ y=v) (hb:Blk w.heap b cs T)
  (hl:o+v.cells.size≤cs.length) (h1:∀ u ∈ v.cells.toList,One u)
  (k:∀ w',Pt w w' b (.cells (splice cs o v.cells.toList).toArray T (0,0))→K undef w'):Eff P (ev n σ) w (.store t x y) ty K:=by
 obtain ⟨w',hp,hr⟩:=run_storeCells (P:=P) v.cells.toList 0 o cs w hb (by simpa using hl) h1
 refine ⟨undef,w',k w' hp,.inr ⟨rfl,fun _ _ _ _=>?_⟩⟩
 have h:=hs w
 simp [execOp,hx,hy,Instr.storeAt,Instr.sureAddr,storeVar,h,hr]
end
end Go.Eng
