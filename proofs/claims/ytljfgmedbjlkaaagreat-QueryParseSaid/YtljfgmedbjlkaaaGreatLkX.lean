/- A lean reckoner for closed runs: compiled ahead, so that the kernel opens each operation once. Over any program. -/
import Derived.Test.YtljfgmedbjlkaaaGreatLkD
namespace Go.Lk
open Go.Eng Go.RowKit
noncomputable section
inductive Bx (α:Type) where
 | mk (a:α)
section
variable {α γ:Type}
def Bx.op (b:Bx α):α:=Bx.rec (fun a=>a) b
def Bx.bind (b:Bx α) (f:α→Bx γ):Bx γ:=Bx.rec f b
theorem op_bind (b:Bx α) (f:α→Bx γ):(b.bind f).op=(f b.op).op:=by cases b;rfl
def forceP (p:P):(P→γ)→γ:=P.rec (fun k=>k .z) (fun _ ih k=>ih fun q=>k (.l q)) (fun _ ih k=>ih fun q=>k (.r q)) p
theorem forceP_eq (p:P) (k:P→γ):forceP p k=k p:=by
 induction p generalizing k with
 | z=>rfl
 | l p ih=>exact ih _
 | r p ih=>exact ih _
end
def getC {α:Type} (p:P):Bx (T α→Option α):=P.rec (.mk fun t=>T.rec none (fun v _ _ _ _=>v) t) (fun _ ih=>ih.bind fun g=>.mk fun t=>T.rec none (fun _ l _ _ _=>g l) t) (fun _ ih=>ih.bind fun g=>.mk fun t=>T.rec none (fun _ _ r _ _=>g r) t) p
theorem getC_eq {α:Type} (p:P):(getC (α:=α) p).op=T.get p:=by
 induction p with
 | z=>rfl
 | l p ih=>show ((getC p).bind fun g=>.mk fun t=>T.rec none (fun _ l _ _ _=>g l) t:Bx (T α→Option α)).op=_;rw [op_bind,ih];rfl
 | r p ih=>show ((getC p).bind fun g=>.mk fun t=>T.rec none (fun _ _ r _ _=>g r) t:Bx (T α→Option α)).op=_;rw [op_bind,ih];rfl
def setC {α:Type} (p:P):Bx (α→T α→T α):=P.rec (.mk fun x t=>T.rec .e (fun v l r _ _=>.n (Option.rec none (fun _=>some x) v) l r) t) (fun _ ih=>ih.bind fun g=>.mk fun x t=>T.rec .e (fun v l r _ _=>.n v (g x l) r) t) (fun _ ih=>ih.bind fun g=>.mk fun x t=>T.rec .e (fun v l r _ _=>.n v l (g x r)) t) p
theorem setC_eq {α:Type} (p:P):(setC (α:=α) p).op=fun x t=>T.set x p t:=by
 induction p with
 | z=>rfl
 | l p ih=>show ((setC p).bind fun g=>.mk fun x t=>T.rec .e (fun v l r _ _=>.n v (g x l) r) t:Bx (α→T α→T α)).op=_;rw [op_bind,ih];rfl
 | r p ih=>show ((setC p).bind fun g=>.mk fun x t=>T.rec .e (fun v l r _ _=>.n v l (g x r)) t:Bx (α→T α→T α)).op=_;rw [op_bind,ih];rfl
def evC (x:Operand):Bx (T V→Option V):=Operand.rec (fun t=>getC (pathOf t)) (fun v=>Option.rec (.mk fun _=>none) (fun u=>.mk fun _=>some u) (ofVal 40 v)) (fun _=>.mk fun _=>none) (fun f=>.mk fun _=>some (.fn f [] [])) x
theorem evC_eq (x:Operand):(evC x).op=evO x:=by
 cases x with
 | tmp t=>exact getC_eq (pathOf t)
 | const v=>
  show (Option.rec (.mk fun _=>none) (fun u=>.mk fun _=>some u) (ofVal 40 v):Bx (T V→Option V)).op=fun _=>ofVal 40 v
  cases ofVal 40 v <;> rfl
 | global g=>rfl
 | func f=>rfl
def evsC (l:List Operand):Bx (T V→Option (List V)):=List.rec (.mk fun _=>some []) (fun x _ ih=>(evC x).bind fun e=>ih.bind fun r=>.mk fun σ=>on (e σ) fun v=>on (r σ) fun m=>some (v::m)) l
theorem evsC_eq (l:List Operand):(evsC l).op=evOs l:=by
 induction l with
 | nil=>rfl
 | cons x l ih=>
  show ((evC x).bind fun e=>(evsC l).bind fun r=>.mk fun σ=>on (e σ) fun v=>on (r σ) fun m=>some (v::m)).op=_
  rw [op_bind,op_bind,evC_eq,ih];rfl
def putC (d:Option Nat):Bx (V→T V→T V):=Option.rec (.mk fun _ σ=>σ) (fun d=>setC (pathOf d)) d
theorem putC_eq (d:Option Nat):(putC d).op=putD d:=by
 cases d with
 | none=>rfl
 | some d=>exact setC_eq (pathOf d)
section
variable {β:Type} [Jn β] (Pr:Program)
def binC (t:TypeId) (c:Bool) (op:BinOp):Bx (V→V→Option V):=BinOp.rec (motive:=fun _=>Bx (V→V→Option V)) (.mk addV) (.mk (arV (fun k x y=>some (.int k (subI k x y))) fun a b=>Flt.D.sub a b)) (.mk (arV (fun k x y=>some (.int k (k.wrap (x * y)))) fun a b=>Flt.D.mul a b)) (.mk (arV (fun k x y=>Bool.rec (some (.int k (k.wrap (x.tdiv y)))) none (eqI y 0)) fun a b=>Flt.D.div a b)) (.mk (divV fun k x y=>.int k (x.tmod y))) (.mk (int2 fun k x y=>.int k (k.wrap (BitVec.ofInt k.bits x &&& BitVec.ofInt k.bits y).toNat))) (.mk (int2 fun k x y=>.int k (k.wrap (BitVec.ofInt k.bits x ||| BitVec.ofInt k.bits y).toNat))) (.mk (int2 fun k x y=>.int k (k.wrap (BitVec.ofInt k.bits x ^^^ BitVec.ofInt k.bits y).toNat))) (.mk (shV fun k x y=>.int k (k.wrap (x * 2 ^ (min y.toNat k.bits))))) (.mk (shV fun k x y=>.int k (x.fdiv (2 ^ (min y.toNat k.bits))))) (.mk (int2 fun k x y=>.int k (k.wrap (BitVec.ofInt k.bits x &&& ~~~ BitVec.ofInt k.bits y).toNat))) (.mk (fun v u=>on (eqQ Pr t c v u) fun b=>some (.bool b))) (.mk (fun v u=>on (eqQ Pr t c v u) fun b=>some (.bool (bnot b)))) (.mk (ord2 ltI ltL (isO true false false))) (.mk (ord2 (fun x y=>bnot (ltI y x)) (fun a b=>bnot (ltL b a)) (isO true true false))) (.mk (ord2 (fun x y=>ltI y x) (fun a b=>ltL b a) (isO false false true))) (.mk (ord2 (fun x y=>bnot (ltI x y)) (fun a b=>bnot (ltL a b)) (isO false true true))) op
theorem binC_eq (t:TypeId) (c:Bool) (op:BinOp):(binC Pr t c op).op=binQ Pr t c op:=by cases op <;> rfl
def builtinC (b:Builtin) (ts:Array TypeId):Bx (List V→T Blk→P→(V→T Blk→P→Option β)→Option β):=match b with
 | .len=>match (ts[0]?).bind Pr.underlying with
  | some .string=>.mk (arg1 fun x h n k=>V.onStr (fun l=>k (.int .i64 (.ofNat (lenL l))) h n) x)
  | some (.slice _)=>.mk (arg1 fun x h n k=>V.onSl (k (.int .i64 0) h n) (fun _ _ len _=>k (.int .i64 (.ofNat len)) h n) x)
  | _=>.mk (builtinX Pr .len ts)
 | .append=>match ts[0]? with
  | some t=>match sliceE Pr t with
   | some (e,kk,by_)=>if ts=#[t,t] then .mk (arg2 fun s x h n k=>appendX e kk by_ s x h n k) else .mk (builtinX Pr .append ts)
   | none=>.mk (builtinX Pr .append ts)
  | none=>.mk (builtinX Pr .append ts)
 | b=>.mk (builtinX Pr b ts)
theorem builtinC_eq (b:Builtin) (ts:Array TypeId):(builtinC (β:=β) Pr b ts).op=builtinX Pr b ts:=by
 have _:True:=(fun (_:Jn β)=>trivial) inferInstance
 unfold builtinC
 split
 ·split
  ·rename_i h;simp only [builtinX,h];rfl
  ·rename_i h;simp only [builtinX,h];rfl
  ·rfl
 ·split
  ·rename_i t h
   split
   ·rename_i e kk by_ h2
    split
    ·rename_i h3;simp only [builtinX,h,h2,if_pos h3];rfl
    ·rfl
   ·rfl
  ·rfl
 ·rfl
def callC (c:Call):Bx (OX β):=Call.rec (fun callee as ts=>Callee.rec (fun f=>(evC f).bind fun ef=>(evsC as.toList).bind fun ea=>.mk fun run σ h n k=>on (ef σ) fun f=>on (ea σ) fun as=>callV run f as h n k) (fun x name=>(evC x).bind fun ex=>(evsC as.toList).bind fun ea=>.mk fun run σ h n k=>on (ex σ) fun x=>on (ea σ) fun as=>V.onIface (fun t y=>on (methT Pr t name) fun f=>callV run (.fn f [y] []) as h n k) x) (fun b=>(evsC as.toList).bind fun ea=>(builtinC Pr b ts).bind fun g=>.mk fun _ σ h n k=>on (ea σ) fun as=>g as h n k) callee) c
theorem callC_eq (c:Call):(callC (β:=β) Pr c).op=callX Pr c:=by
 obtain ⟨callee,as,ts⟩:=c
 cases callee with
 | value f=>
  show ((evC f).bind fun ef=>(evsC as.toList).bind fun ea=>Bx.mk fun run σ h n k=>on (ef σ) fun f=>on (ea σ) fun as=>callV run f as h n k).op=_
  rw [op_bind,op_bind,evC_eq,evsC_eq];rfl
 | invoke x name=>
  show ((evC x).bind fun ex=>(evsC as.toList).bind fun ea=>Bx.mk fun run σ h n k=>on (ex σ) fun x=>on (ea σ) fun as=>V.onIface (fun t y=>on (methT Pr t name) fun f=>callV run (.fn f [y] []) as h n k) x).op=_
  rw [op_bind,op_bind,evC_eq,evsC_eq];rfl
 | builtin b=>
  show ((evsC as.toList).bind fun ea=>(builtinC Pr b ts).bind fun g=>Bx.mk fun _ σ h n k=>on (ea σ) fun as=>g as h n k).op=_
  rw [op_bind,op_bind,evsC_eq,builtinC_eq];rfl
def opC_move (x:Operand):Bx (OX β):=(evC x).bind fun e=>.mk fun _ σ h n k=>on (e σ) fun v=>k v h n
def opC_assign (x:Operand):Bx (OX β):=(evC x).bind fun e=>.mk fun _ σ h n k=>on (e σ) fun v=>k v h n
def opC_pick (c:Operand) (a:Operand) (b:Operand):Bx (OX β):=(evC c).bind fun ec=>(evC a).bind fun ea=>(evC b).bind fun eb=>.mk fun _ σ h n k=>on (on (ec σ) (V.onBool fun t=>Bool.rec (eb σ) (ea σ) t)) fun v=>k v h n
def opC_alloc (t:TypeId):Bx (OX β):=Option.rec (.mk fun _ _ _ _ _=>none) (fun z=>.mk fun _ _ h n k=>newB (rowB t z) (.ptr n 0 0) h n k) (zcT Pr t)
def opC_box (t:TypeId) (x:Operand):Bx (OX β):=(evC x).bind fun e=>.mk fun _ σ h n k=>on (e σ) (V.onCells fun c=>newB (rowB t c) (.ptr n 0 0) h n k)
def opC_build (t:TypeId) (ps:Array (Nat × Operand)):Bx (OX β):=.mk ((fun t parts=>qx fun σ _=>buildQ Pr t parts.toList σ) t ps)
def opC_buildSlice (t:TypeId) (l:Nat) (ps:Array (Nat × Operand)):Bx (OX β):=.mk ((fun t len parts=>buildSliceX Pr t len parts.toList) t l ps)
def opC_insert (t:TypeId) (m:Operand) (k:Operand) (v:Operand):Bx (OX β):=.mk ((fun t m k v _ σ h n f=>on (evO m σ) fun m=>on (evO k σ) fun k=>on (evO v σ) fun v=>on (updQ (keyT Pr t) m k v h) fun h'=>f undefV h' n) t m k v)
def opC_load (t:TypeId) (a:Operand):Bx (OX β):=(evC a).bind fun e=>Option.rec (.mk fun _ _ _ _ _=>none) (fun g=>.mk fun _ σ h n k=>on (on (e σ) fun v=>loadQ g v h) fun v=>k v h n) (aggT Pr t)
def opC_store (t:TypeId) (a:Operand) (x:Operand):Bx (OX β):=(evC a).bind fun ea=>(evC x).bind fun ex=>.mk fun _ σ h n k=>on (ea σ) fun p=>on (ex σ) (V.onCells fun c=>V.onPtr (fun b i j=>on (szT Pr t) fun g=>Bool.rec none (Bool.rec none (on (writeN c b i j h) fun h'=>k undefV h' n) (onesV c)) (Nat.beq (lenL c) g)) p)
def opC_ready (g:Nat):Bx (OX β):=.mk ((fun _ _ _ _ _ _=>none) g)
def opC_waits (g:Nat):Bx (OX β):=.mk ((fun _ _ _ _ _ _=>none) g)
def opC_nilCheck (x:Operand):Bx (OX β):=(evC x).bind fun e=>.mk fun _ σ h n k=>on (on (e σ) nilQ) fun v=>k v h n
def opC_binOp (o:BinOp) (t:TypeId) (x:Operand) (y:Operand) (t2:TypeId):Bx (OX β):=(evC x).bind fun ex=>(evC y).bind fun ey=>(binC Pr t (bor (isC x) (isC y)) o).bind fun f=>.mk fun _ σ h n k=>on (on (ex σ) fun a=>on (ey σ) fun b=>f a b) fun v=>k v h n
def opC_unOp (o:UnOp) (t:TypeId) (x:Operand):Bx (OX β):=(evC x).bind fun e=>.mk fun _ σ h n k=>on (on (e σ) (unQ o)) fun v=>k v h n
def opC_convert (s:TypeId) (d:TypeId) (x:Operand):Bx (OX β):=CK.rec (fun q=>(evC x).bind fun e=>.mk fun _ σ h n k=>on (on (e σ) (V.onInt fun _ a=>some (.int q (q.wrap a)))) fun v=>k v h n) ((evC x).bind fun e=>.mk fun _ σ h n k=>on (on (e σ) (V.onInt fun _ a=>some (.flt (fromInt a)))) fun v=>k v h n) (fun _=>.mk (convX Pr s d x)) (fun _=>.mk (convX Pr s d x)) (.mk (convX Pr s d x)) (convK Pr s d)
def opC_sliceToArrayPointer (t:TypeId) (x:Operand):Bx (OX β):=.mk ((fun _ _ _ _ _ _ _=>none) t x)
def opC_makeInterface (t:TypeId) (x:Operand):Bx (OX β):=(evC x).bind fun e=>.mk fun _ σ h n k=>on (Bool.rec none (on (e σ) fun v=>some (.iface t v)) (concT Pr t)) fun v=>k v h n
def opC_makeFunc (g:Fn) (a:Array Operand) (b:Array Operand):Bx (OX β):=.mk ((fun g first captured=>match g with | .func f=>qx fun σ _=>on (evOs first.toList σ) fun a=>on (evOs captured.toList σ) fun b=>some (.fn f a b) | _=>fun _ _ _ _ _=>none) g a b)
def opC_makeMap (t:TypeId) (r:Option Operand):Bx (OX β):=.mk ((fun t rs=>Option.rec (fun _ _ h n k=>newB (.map [] 0) (.map n) h n k) (fun x _ σ h n k=>Bool.rec none (on (evO x σ) (V.onInt fun _ _=>newB (.map [] 0) (.map n) h n k)) (mapTy Pr t)) rs) t r)
def opC_makeChan (t:TypeId) (s:Operand):Bx (OX β):=.mk ((fun _ _ _ _ _ _ _=>none) t s)
def opC_makeSlice (t:TypeId) (l:Operand) (c:Operand):Bx (OX β):=.mk ((fun t l c=>makeSliceX Pr t l c) t l c)
def opC_slice (t:TypeId) (x:Operand) (l:Option Operand) (h:Option Operand) (m:Option Operand):Bx (OX β):=.mk ((fun t x lo hi mx=>qx fun σ h=>on (evO x σ) fun v=>sliceQ Pr t lo hi mx v σ h) t x l h m)
def opC_fieldAddr (s:TypeId) (x:Operand) (f:Nat):Bx (OX β):=(evC x).bind fun e=>match fieldT Pr s f with | some fl=>(match szT Pr fl.type with | some (_+1)=>.mk fun _ σ h n k=>on (on (e σ) (V.onPtr fun b i j=>some (.ptr b i (Nat.add j fl.offset)))) fun v=>k v h n | _=>.mk fun _ _ _ _ _=>none) | none=>.mk fun _ _ _ _ _=>none
def opC_field (s:TypeId) (x:Operand) (f:Nat):Bx (OX β):=(evC x).bind fun e=>match fieldT Pr s f with | some fl=>(match szT Pr fl.type,aggT Pr fl.type with | some z,some g=>.mk fun _ σ h n k=>on (on (e σ) (fieldQ fl.offset z g)) fun v=>k v h n | _,_=>.mk fun _ _ _ _ _=>none) | none=>.mk fun _ _ _ _ _=>none
def opC_indexAddr (t:TypeId) (x:Operand) (i:Operand):Bx (OX β):=(evC x).bind fun ex=>(evC i).bind fun ei=>.mk fun _ σ h n k=>on (on (ex σ) fun v=>on (ei σ) (onNat fun i=>indexAddrQ (arrK Pr t) (elemK Pr t) h v i)) fun v=>k v h n
def opC_index (t:TypeId) (x:Operand) (i:Operand):Bx (OX β):=(evC x).bind fun ex=>(evC i).bind fun ei=>.mk fun _ σ h n k=>on (on (ex σ) fun v=>on (ei σ) (onNat fun i=>indexQ (strT Pr t) (arrG Pr t) v i)) fun v=>k v h n
def opC_lookup (t:TypeId) (m:Operand) (k:Operand) (ok:Bool):Bx (OX β):=.mk ((fun t m k ok=>qx fun σ h=>on (evO m σ) fun m=>on (evO k σ) fun k=>lookQ (keyT Pr t) (mapElemT Pr t) ok m k h) t m k ok)
def opC_mapUpdate (t:TypeId) (m:Operand) (k:Operand) (v:Operand):Bx (OX β):=.mk ((fun t m k v _ σ h n f=>on (evO m σ) fun m=>on (evO k σ) fun k=>on (evO v σ) fun v=>on (updQ (keyT Pr t) m k v h) fun h'=>f undefV h' n) t m k v)
def opC_mapEntry (t:TypeId) (m:Operand) (k:Operand):Bx (OX β):=.mk ((fun t m k _ σ h n f=>on (evO m σ) fun m=>on (evO k σ) fun k=>V.onMap none (fun b=>onMapB h b fun es c=>
  findE (keyT Pr t) k (fun _ e=>f (.tup [e.2.1,.int .i64 (.ofNat e.2.2)]) h n) (on (mapElemT Pr t) fun z=>f (.tup [z,.int .i64 (.ofNat c)]) (mapPut b (appL es [(k,z,c)]) (Nat.succ c) h) n) es) m) t m k)
def opC_entryStore (t:TypeId) (m:Operand) (s:Operand) (v:Operand):Bx (OX β):=.mk ((fun _ m s v _ σ h n f=>on (evO m σ) fun m=>on (evO s σ) fun s=>on (evO v σ) fun v=>V.onMap none (fun b=>onNat (fun s=>onMapB h b fun es c=>on (setS s v es) fun es'=>f undefV (mapPut b es' c h) n) s) m) t m s v)
def opC_range (t:TypeId) (x:Operand):Bx (OX β):=.mk ((fun t x _ σ h n f=>on (evO x σ) fun v=>rangeOp Pr t v h n f) t x)
def opC_next (i:Operand) (s:Bool):Bx (OX β):=.mk ((fun it s=>nextX it s) i s)
def opC_entry (i:Operand):Bx (OX β):=.mk ((fun it=>qx fun σ h=>entryQ it σ h) i)
def opC_typeAssert (x:Operand) (t:TypeId) (a:TypeId) (ok:Bool):Bx (OX β):=.mk ((fun _ _ _ _ _ _ _ _ _=>none) x t a ok)
def opC_extract (x:Operand) (i:Nat):Bx (OX β):=(evC x).bind fun e=>.mk fun _ σ h n k=>on (on (e σ) (V.onTup fun l=>nthL i l)) fun v=>k v h n
def opC_call (c:Call):Bx (OX β):=callC Pr c
def opC_go (c:Call):Bx (OX β):=.mk ((fun _ _ _ _ _ _=>none) c)
def opC_defer (c:Call):Bx (OX β):=.mk ((fun _ _ _ _ _ _=>none) c)
def opC_panic (x:Operand):Bx (OX β):=.mk ((fun _ _ _ _ _ _=>none) x)
def opC_send (c:Operand) (x:Operand):Bx (OX β):=.mk ((fun _ _ _ _ _ _ _=>none) c x)
def opC_recv (t:TypeId) (c:Operand) (ok:Bool):Bx (OX β):=.mk ((fun _ _ _ _ _ _ _ _=>none) t c ok)
def opC_select (cs:Array SelectCase) (b:Bool):Bx (OX β):=.mk ((fun _ _ _ _ _ _ _=>none) cs b)
def opC (op:Op):Bx (OX β):=Op.rec (motive:=fun _=>Bx (OX β))
 opC_move opC_assign opC_pick (opC_alloc Pr) opC_box (opC_build Pr) (opC_buildSlice Pr) (opC_insert Pr) (opC_load Pr) (opC_store Pr) opC_ready opC_waits opC_nilCheck (opC_binOp Pr) opC_unOp (opC_convert Pr) opC_sliceToArrayPointer (opC_makeInterface Pr) opC_makeFunc (opC_makeMap Pr) opC_makeChan (opC_makeSlice Pr) (opC_slice Pr) (opC_fieldAddr Pr) (opC_field Pr) (opC_indexAddr Pr) (opC_index Pr) (opC_lookup Pr) (opC_mapUpdate Pr) (opC_mapEntry Pr) opC_entryStore (opC_range Pr) opC_next opC_entry opC_typeAssert opC_extract (opC_call Pr) opC_go opC_defer opC_panic opC_send opC_recv opC_select op
theorem opC_eq (op:Op):(opC (β:=β) Pr op).op=opX Pr op:=by
 cases op <;> try rfl
 case move x=>show ((evC x).bind fun e=>.mk fun _ σ h n k=>on (e σ) fun v=>k v h n:Bx (OX β)).op=_;rw [op_bind,evC_eq];rfl
 case assign x=>show ((evC x).bind fun e=>.mk fun _ σ h n k=>on (e σ) fun v=>k v h n:Bx (OX β)).op=_;rw [op_bind,evC_eq];rfl
 case pick c a b=>show ((evC c).bind fun ec=>(evC a).bind fun ea=>(evC b).bind fun eb=>.mk fun _ σ h n k=>on (on (ec σ) (V.onBool fun t=>Bool.rec (eb σ) (ea σ) t)) fun v=>k v h n:Bx (OX β)).op=_;rw [op_bind,op_bind,op_bind,evC_eq,evC_eq,evC_eq];rfl
 case alloc t=>
  show (Option.rec (.mk fun _ _ _ _ _=>none) (fun z=>.mk fun _ _ h n k=>newB (rowB t z) (.ptr n 0 0) h n k) (zcT Pr t):Bx (OX β)).op=(Option.rec (fun _ _ _ _ _=>none) (fun z _ _ h n k=>newB (rowB t z) (.ptr n 0 0) h n k) (zcT Pr t):OX β)
  cases zcT Pr t <;> rfl
 case box t x=>show ((evC x).bind fun e=>.mk fun _ σ h n k=>on (e σ) (V.onCells fun c=>newB (rowB t c) (.ptr n 0 0) h n k):Bx (OX β)).op=_;rw [op_bind,evC_eq];rfl
 case load t a=>
  show ((evC a).bind fun e=>Option.rec (.mk fun _ _ _ _ _=>none) (fun g=>.mk fun _ σ h n k=>on (on (e σ) fun v=>loadQ g v h) fun v=>k v h n) (aggT Pr t):Bx (OX β)).op=(Option.rec (fun _ _ _ _ _=>none) (fun g=>qx fun σ h=>on (evO a σ) fun v=>loadQ g v h) (aggT Pr t):OX β)
  rw [op_bind,evC_eq]
  cases aggT Pr t <;> rfl
 case store t a x=>show ((evC a).bind fun ea=>(evC x).bind fun ex=>.mk fun _ σ h n k=>on (ea σ) fun p=>on (ex σ) (V.onCells fun c=>V.onPtr (fun b i j=>on (szT Pr t) fun g=>Bool.rec none (Bool.rec none (on (writeN c b i j h) fun h'=>k undefV h' n) (onesV c)) (Nat.beq (lenL c) g)) p):Bx (OX β)).op=_;rw [op_bind,op_bind,evC_eq,evC_eq];rfl
 case nilCheck x=>show ((evC x).bind fun e=>.mk fun _ σ h n k=>on (on (e σ) nilQ) fun v=>k v h n:Bx (OX β)).op=_;rw [op_bind,evC_eq];rfl
 case binOp o t x y t2=>show ((evC x).bind fun ex=>(evC y).bind fun ey=>(binC Pr t (bor (isC x) (isC y)) o).bind fun f=>.mk fun _ σ h n k=>on (on (ex σ) fun a=>on (ey σ) fun b=>f a b) fun v=>k v h n:Bx (OX β)).op=_;rw [op_bind,op_bind,op_bind,evC_eq,evC_eq,binC_eq];rfl
 case unOp o t x=>show ((evC x).bind fun e=>.mk fun _ σ h n k=>on (on (e σ) (unQ o)) fun v=>k v h n:Bx (OX β)).op=_;rw [op_bind,evC_eq];rfl
 case convert s d x=>
  show (CK.rec (fun q=>(evC x).bind fun e=>.mk fun _ σ h n k=>on (on (e σ) (V.onInt fun _ a=>some (.int q (q.wrap a)))) fun v=>k v h n) ((evC x).bind fun e=>.mk fun _ σ h n k=>on (on (e σ) (V.onInt fun _ a=>some (.flt (fromInt a)))) fun v=>k v h n) (fun _=>.mk (convX Pr s d x)) (fun _=>.mk (convX Pr s d x)) (.mk (convX Pr s d x)) (convK Pr s d):Bx (OX β)).op=convX Pr s d x
  cases h:convK Pr s d with
  | int q=>show ((evC x).bind fun e=>.mk fun _ σ h n k=>on (on (e σ) (V.onInt fun _ a=>some (.int q (q.wrap a)))) fun v=>k v h n:Bx (OX β)).op=_;rw [op_bind,evC_eq];unfold convX;rw [h];rfl
  | flt=>show ((evC x).bind fun e=>.mk fun _ σ h n k=>on (on (e σ) (V.onInt fun _ a=>some (.flt (fromInt a)))) fun v=>k v h n:Bx (OX β)).op=_;rw [op_bind,evC_eq];unfold convX;rw [h];rfl
  | str b=>rfl
  | bytes e=>rfl
  | no=>rfl
 case makeInterface t x=>show ((evC x).bind fun e=>.mk fun _ σ h n k=>on (Bool.rec none (on (e σ) fun v=>some (.iface t v)) (concT Pr t)) fun v=>k v h n:Bx (OX β)).op=_;rw [op_bind,evC_eq];rfl
 case fieldAddr s x f=>
  show ((evC x).bind fun e=>match fieldT Pr s f with | some fl=>(match szT Pr fl.type with | some (_+1)=>.mk fun _ σ h n k=>on (on (e σ) (V.onPtr fun b i j=>some (.ptr b i (Nat.add j fl.offset)))) fun v=>k v h n | _=>.mk fun _ _ _ _ _=>none) | none=>.mk fun _ _ _ _ _=>none:Bx (OX β)).op=_
  rw [op_bind,evC_eq]
  show Bx.op _=(match fieldT Pr s f with | some fl=>(match szT Pr fl.type with | some (_+1)=>qx fun σ _=>on (evO x σ) (V.onPtr fun b i j=>some (.ptr b i (Nat.add j fl.offset))) | _=>fun _ _ _ _ _=>none) | none=>fun _ _ _ _ _=>none)
  split
  ·split <;> rfl
  ·rfl
 case field s x f=>
  show ((evC x).bind fun e=>match fieldT Pr s f with | some fl=>(match szT Pr fl.type,aggT Pr fl.type with | some z,some g=>.mk fun _ σ h n k=>on (on (e σ) (fieldQ fl.offset z g)) fun v=>k v h n | _,_=>.mk fun _ _ _ _ _=>none) | none=>.mk fun _ _ _ _ _=>none:Bx (OX β)).op=_
  rw [op_bind,evC_eq]
  show Bx.op _=(match fieldT Pr s f with | some fl=>(match szT Pr fl.type,aggT Pr fl.type with | some k,some g=>qx fun σ _=>on (evO x σ) (fieldQ fl.offset k g) | _,_=>fun _ _ _ _ _=>none) | none=>fun _ _ _ _ _=>none)
  split
  ·split <;> rfl
  ·rfl
 case indexAddr t x i=>show ((evC x).bind fun ex=>(evC i).bind fun ei=>.mk fun _ σ h n k=>on (on (ex σ) fun v=>on (ei σ) (onNat fun i=>indexAddrQ (arrK Pr t) (elemK Pr t) h v i)) fun v=>k v h n:Bx (OX β)).op=_;rw [op_bind,op_bind,evC_eq,evC_eq];rfl
 case index t x i=>show ((evC x).bind fun ex=>(evC i).bind fun ei=>.mk fun _ σ h n k=>on (on (ex σ) fun v=>on (ei σ) (onNat fun i=>indexQ (strT Pr t) (arrG Pr t) v i)) fun v=>k v h n:Bx (OX β)).op=_;rw [op_bind,op_bind,evC_eq,evC_eq];rfl
 case extract x i=>show ((evC x).bind fun e=>.mk fun _ σ h n k=>on (on (e σ) (V.onTup fun l=>nthL i l)) fun v=>k v h n:Bx (OX β)).op=_;rw [op_bind,evC_eq];rfl
 case call c=>exact callC_eq Pr c
abbrev RX (β:Type):=Run→Option P→T V→List D→T Blk→P→KN β→Option β
def operC (ops:Array Oper) (o:Oper):Bx (RX β):=
 Oper.rec (fun dst op ty pos af g=>Option.rec (Bool.rec ((opC Pr op).bind fun f=>(putC dst).bind fun pd=>.mk fun run _ σ ds h n k=>f run σ h n fun v h n=>k (pd v σ) ds h n) (.mk (operQ Pr ⟨dst,op,ty,pos,af,g⟩)) (isDefer op))
  (fun jb=>Prod.rec (fun j b=>Option.rec (.mk fun _ _ _ _ _ _ _=>none) (fun t=>(getC (pathOf t)).bind fun gt=>(opC Pr op).bind fun f=>(putC dst).bind fun pd=>.mk fun run rd σ ds h n k=>on (gt σ)
   (V.onGuard (fun c=>Bool.rec (k (pd undefV σ) ds h n) (f run σ h n fun v h n=>k (pd v σ) ds h n) (Bool.rec (bnot c) c b)) (k (pd undefV σ) ds h n))) ((ops[j]?).bind (·.dst))) jb) g) o
theorem operC_eq (ops:Array Oper) (o:Oper):(operC (β:=β) Pr ops o).op=operX Pr ops o:=by
 obtain ⟨dst,op,ty,pos,af,g⟩:=o
 cases g with
 | none=>
  show (Bool.rec ((opC Pr op).bind fun f=>(putC dst).bind _) _ (isDefer op):Bx (RX β)).op=(Bool.rec _ _ (isDefer op):RX β)
  cases isDefer op with
  | false=>show ((opC Pr op).bind fun f=>(putC dst).bind _).op=_;rw [op_bind,op_bind,opC_eq,putC_eq];rfl
  | true=>rfl
 | some jb=>
  obtain ⟨j,b⟩:=jb
  show (Option.rec (.mk fun _ _ _ _ _ _ _=>none) (fun t=>(getC (pathOf t)).bind fun gt=>(opC Pr op).bind fun f=>(putC dst).bind fun pd=>.mk fun run rd σ ds h n k=>on (gt σ)
   (V.onGuard (fun c=>Bool.rec (k (pd undefV σ) ds h n) (f run σ h n fun v h n=>k (pd v σ) ds h n) (Bool.rec (bnot c) c b)) (k (pd undefV σ) ds h n))) ((ops[j]?).bind (·.dst)):Bx (RX β)).op=(Option.rec (fun _ _ _ _ _ _ _=>none) (fun t=>fun run rd σ ds h n k=>on (T.get (pathOf t) σ)
   (V.onGuard (fun c=>Bool.rec (k (putD dst undefV σ) ds h n) (opX Pr op run σ h n fun v h n=>k (putD dst v σ) ds h n) (Bool.rec (bnot c) c b)) (k (putD dst undefV σ) ds h n))) ((ops[j]?).bind (·.dst)):RX β)
  cases (ops[j]?).bind (·.dst) with
  | none=>rfl
  | some t=>
   show ((getC (pathOf t)).bind fun gt=>(opC Pr op).bind fun f=>(putC dst).bind fun pd=>.mk fun run rd σ ds h n k=>on (gt σ)
    (V.onGuard (fun c=>Bool.rec (k (pd undefV σ) ds h n) (f run σ h n fun v h n=>k (pd v σ) ds h n) (Bool.rec (bnot c) c b)) (k (pd undefV σ) ds h n)):Bx (RX β)).op=_
   rw [op_bind,op_bind,op_bind,getC_eq,opC_eq,putC_eq];rfl
def opersC (ops:Array Oper) (l:List Oper):Bx (RX β):=
 List.rec (.mk fun _ _ σ ds h n k=>k σ ds h n) (fun o _ ih=>(operC Pr ops o).bind fun f=>ih.bind fun g=>.mk fun run rd σ ds h n k=>f run rd σ ds h n fun σ ds h n=>g run rd σ ds h n k) l
theorem opersC_eq (ops:Array Oper):∀ l:List Oper,(opersC (β:=β) Pr ops l).op=opersX Pr ops l
 | []=>rfl
 | o::l=>by
  show ((operC Pr ops o).bind fun f=>(opersC Pr ops l).bind fun g=>.mk fun run rd σ ds h n k=>f run rd σ ds h n fun σ ds h n=>g run rd σ ds h n k:Bx (RX β)).op=_
  rw [op_bind,op_bind,operC_eq,opersC_eq ops l];rfl
def quietC (op:Op):Bx (T V→T Blk→Option V):=(opC (β:=V) Pr op).bind fun f=>.mk fun σ h=>f (fun _ _ _=>none) σ h .z fun v _ _=>some v
theorem quietC_eq (op:Op):(quietC Pr op).op=quietX Pr op:=by unfold quietC;rw [op_bind,opC_eq];rfl
def freshC (op:Op):Bx (T V→P→Option (Blk × V)):=(opC (β:=Blk × V) Pr op).bind fun f=>.mk fun σ n=>f (fun _ _ _=>none) σ .e n fun v h _=>on (T.get n h) fun B=>some (B,v)
theorem freshC_eq (op:Op):(freshC Pr op).op=freshX Pr op:=by unfold freshC;rw [op_bind,opC_eq];rfl
def guardC (ops:Array Oper) (o:Oper):Bx (T V→Option β→Option β→Option β):=Oper.rec (fun _ _ _ _ _ g=>Option.rec (.mk fun _ yes _=>yes) (fun jb=>Prod.rec (fun j b=>Option.rec (.mk fun _ _ _=>none) (fun t=>forceP (pathOf t) fun q=>.mk fun σ yes no=>on (T.get q σ) (V.onGuard (fun c=>Bool.rec no yes (Bool.rec (bnot c) c b)) no)) ((ops[j]?).bind (·.dst))) jb) g) o
theorem guardC_eq (ops:Array Oper) (o:Oper):(guardC (β:=β) ops o).op=guardX ops o:=by
 have _:True:=(fun (_:Jn β)=>trivial) inferInstance
 obtain ⟨dst,op,ty,pos,af,g⟩:=o
 cases g with
 | none=>rfl
 | some jb=>
  obtain ⟨j,b⟩:=jb
  funext σ yes no
  show (Option.rec (.mk fun _ _ _=>none) (fun t=>forceP (pathOf t) fun q=>.mk fun σ yes no=>on (T.get q σ) (V.onGuard (fun c=>Bool.rec no yes (Bool.rec (bnot c) c b)) no)) ((ops[j]?).bind (·.dst)):Bx (T V→Option β→Option β→Option β)).op σ yes no=(Option.rec none (fun t=>on (T.get (pathOf t) σ) (V.onGuard (fun c=>Bool.rec no yes (Bool.rec (bnot c) c b)) no)) ((ops[j]?).bind (·.dst)):Option β)
  cases (ops[j]?).bind (·.dst) with
  | none=>rfl
  | some t=>show (forceP (pathOf t) fun q=>.mk fun σ yes no=>on (T.get q σ) (V.onGuard (fun c=>Bool.rec no yes (Bool.rec (bnot c) c b)) no):Bx (T V→Option β→Option β→Option β)).op σ yes no=_;rw [forceP_eq];rfl
def stepQ (ops:Array Oper) (i:Nat) (ih:Bx (SX β)):Bx (SX β):=Option.rec (.mk fun _ _ _ _ _ _ _ _=>none) (fun o=>(guardC ops o).bind fun gd=>(quietC Pr o.op).bind fun qf=>(putC o.dst).bind fun pu=>ih.bind fun g=>.mk fun cs pd run σ ds h n k=>gd σ (on (qf σ h) fun v=>g ((i,(fun h=>qf σ h),v)::cs) pd run (pu v σ) ds h n k) (g cs pd run (pu undefV σ) ds h n k)) (ops[i]?)
def stepE (ops:Array Oper) (i:Nat) (chk:List Nat) (ih:Bx (SX β)):Bx (SX β):=Option.rec (.mk fun _ _ _ _ _ _ _ _=>none) (fun o=>(guardC ops o).bind fun gd=>(opC Pr o.op).bind fun f=>(putC o.dst).bind fun pu=>ih.bind fun g=>.mk fun cs pd run σ ds h n k=>Bool.rec (gd σ (f run σ h n fun v h n=>chkAll chk h (g cs pd run (pu v σ) ds h n k) cs) (g cs pd run (pu undefV σ) ds h n k)) none (isDefer o.op)) (ops[i]?)
def stepO (ops:Array Oper) (i:Nat) (ih:Bx (SX β)):Bx (SX β):=Option.rec (.mk fun _ _ _ _ _ _ _ _=>none) (fun o=>(freshC Pr o.op).bind fun f=>ih.bind fun g=>.mk fun cs pd run σ ds h n k=>Option.rec none (fun d=>on (T.get (pathOf d) σ) fun _=>on (f σ n) fun _=>g cs ((i,fun n=>f σ n)::pd) run (T.put none (pathOf d) σ) ds h n k) o.dst) (ops[i]?)
def stepF (ops:Array Oper) (i:Nat) (ih:Bx (SX β)):Bx (SX β):=Option.rec (.mk fun _ _ _ _ _ _ _ _=>none) (fun o=>ih.bind fun g=>.mk fun cs pd run σ ds h n k=>Option.rec none (fun d=>takeP i pd fun mk rest=>on (mk n) fun Bv=>g cs rest run (T.put (some Bv.2) (pathOf d) σ) ds (T.put (some Bv.1) n h) (P.succ n) k) o.dst) (ops[i]?)
def stepsC (ops:Array Oper) (l:List PS):Bx (SX β):=List.rec (.mk fun _ pd _ σ ds h n k=>List.rec (k σ ds h n) (fun _ _ _=>none) pd) (fun s _ ih=>PS.rec (fun i=>stepQ Pr ops i ih) (fun i chk=>stepE Pr ops i chk ih) (fun i=>stepO Pr ops i ih) (fun i=>stepF ops i ih) s) l
theorem stepsC_eq (ops:Array Oper):∀ l:List PS,(stepsC (β:=β) Pr ops l).op=stepsD Pr ops l
 | []=>rfl
 | .q i::l=>by
  have ih:=stepsC_eq ops l
  show (stepQ Pr ops i (stepsC Pr ops l)).op=(Option.rec (fun _ _ _ _ _ _ _ _=>none) (fun o=>fun cs pd run σ ds h n k=>guardX ops o σ (on (quietX Pr o.op σ h) fun v=>stepsD Pr ops l ((i,(fun h=>quietX Pr o.op σ h),v)::cs) pd run (putD o.dst v σ) ds h n k) (stepsD Pr ops l cs pd run (putD o.dst undefV σ) ds h n k)) (ops[i]?):SX β)
  unfold stepQ
  cases ops[i]? with
  | none=>rfl
  | some o=>show ((guardC ops o).bind fun gd=>(quietC Pr o.op).bind fun qf=>(putC o.dst).bind fun pu=>(stepsC Pr ops l).bind fun g=>.mk fun cs pd run σ ds h n k=>gd σ (on (qf σ h) fun v=>g ((i,(fun h=>qf σ h),v)::cs) pd run (pu v σ) ds h n k) (g cs pd run (pu undefV σ) ds h n k):Bx (SX β)).op=_;rw [op_bind,op_bind,op_bind,op_bind,guardC_eq,quietC_eq,putC_eq,ih];rfl
 | .e i chk::l=>by
  have ih:=stepsC_eq ops l
  show (stepE Pr ops i chk (stepsC Pr ops l)).op=(Option.rec (fun _ _ _ _ _ _ _ _=>none) (fun o=>fun cs pd run σ ds h n k=>Bool.rec (guardX ops o σ (opX Pr o.op run σ h n fun v h n=>chkAll chk h (stepsD Pr ops l cs pd run (putD o.dst v σ) ds h n k) cs) (stepsD Pr ops l cs pd run (putD o.dst undefV σ) ds h n k)) none (isDefer o.op)) (ops[i]?):SX β)
  unfold stepE
  cases ops[i]? with
  | none=>rfl
  | some o=>show ((guardC ops o).bind fun gd=>(opC Pr o.op).bind fun f=>(putC o.dst).bind fun pu=>(stepsC Pr ops l).bind fun g=>.mk fun cs pd run σ ds h n k=>Bool.rec (gd σ (f run σ h n fun v h n=>chkAll chk h (g cs pd run (pu v σ) ds h n k) cs) (g cs pd run (pu undefV σ) ds h n k)) none (isDefer o.op):Bx (SX β)).op=_;rw [op_bind,op_bind,op_bind,op_bind,guardC_eq,opC_eq,putC_eq,ih];rfl
 | .o i::l=>by
  have ih:=stepsC_eq ops l
  show (stepO Pr ops i (stepsC Pr ops l)).op=(Option.rec (fun _ _ _ _ _ _ _ _=>none) (fun o=>fun cs pd run σ ds h n k=>Option.rec none (fun d=>on (T.get (pathOf d) σ) fun _=>on (freshX Pr o.op σ n) fun _=>stepsD Pr ops l cs ((i,fun n=>freshX Pr o.op σ n)::pd) run (T.put none (pathOf d) σ) ds h n k) o.dst) (ops[i]?):SX β)
  unfold stepO
  cases ops[i]? with
  | none=>rfl
  | some o=>show ((freshC Pr o.op).bind fun f=>(stepsC Pr ops l).bind fun g=>.mk fun cs pd run σ ds h n k=>Option.rec none (fun d=>on (T.get (pathOf d) σ) fun _=>on (f σ n) fun _=>g cs ((i,fun n=>f σ n)::pd) run (T.put none (pathOf d) σ) ds h n k) o.dst:Bx (SX β)).op=_;rw [op_bind,op_bind,freshC_eq,ih];rfl
 | .f i::l=>by
  have ih:=stepsC_eq ops l
  show (stepF ops i (stepsC Pr ops l)).op=(Option.rec (fun _ _ _ _ _ _ _ _=>none) (fun o=>fun cs pd run σ ds h n k=>Option.rec none (fun d=>takeP i pd fun mk rest=>on (mk n) fun Bv=>stepsD Pr ops l cs rest run (T.put (some Bv.2) (pathOf d) σ) ds (T.put (some Bv.1) n h) (P.succ n) k) o.dst) (ops[i]?):SX β)
  unfold stepF
  cases ops[i]? with
  | none=>rfl
  | some o=>show ((stepsC Pr ops l).bind fun g=>.mk fun cs pd run σ ds h n k=>Option.rec none (fun d=>takeP i pd fun mk rest=>on (mk n) fun Bv=>g cs rest run (T.put (some Bv.2) (pathOf d) σ) ds (T.put (some Bv.1) n h) (P.succ n) k) o.dst:Bx (SX β)).op=_;rw [op_bind,ih];rfl
def drawC (ops:Array Oper):Bx (RX β):=Bool.rec (.mk fun _ _ _ _ _ _ _=>none) ((stepsC Pr ops (planOf Pr ops)).bind fun f=>.mk fun run rd σ ds h n k=>Option.rec (f [] [] run σ ds h n k) (fun _=>none) rd) (fitsD Pr ops)
theorem drawC_eq (ops:Array Oper):(drawC (β:=β) Pr ops).op=regX Pr ops true:=by
 show (Bool.rec (.mk fun _ _ _ _ _ _ _=>none) ((stepsC Pr ops (planOf Pr ops)).bind fun f=>.mk fun run rd σ ds h n k=>Option.rec (f [] [] run σ ds h n k) (fun _=>none) rd) (fitsD Pr ops):Bx (RX β)).op=(Bool.rec (fun _ _ _ _ _ _ _=>none) (fun run rd σ ds h n k=>Option.rec (stepsD Pr ops (planOf Pr ops) [] [] run σ ds h n k) (fun _=>none) rd) (fitsD Pr ops):RX β)
 cases fitsD Pr ops with
 | false=>rfl
 | true=>show ((stepsC Pr ops (planOf Pr ops)).bind fun f=>.mk fun run rd σ ds h n k=>Option.rec (f [] [] run σ ds h n k) (fun _=>none) rd:Bx (RX β)).op=_;rw [op_bind,stepsC_eq];rfl
def regC (ops:Array Oper) (draw:Bool):Bx (RX β):=Bool.rec (opersC Pr ops ops.toList) (drawC Pr ops) draw
theorem regC_eq (ops:Array Oper) (draw:Bool):(regC (β:=β) Pr ops draw).op=regX Pr ops draw:=by
 cases draw with
 | false=>exact opersC_eq Pr ops ops.toList
 | true=>exact drawC_eq Pr ops
abbrev CX (β:Type):=EX β × (Nat→Option (EX β))
def exC (m:Nat) (c:Code):Bx (CX β):=Code.rec (motive:=fun _=>Bx (CX β))
 (.mk (fun _ _ σ ds h n kn _=>kn σ ds h n,fun _=>none))
 (fun _ ops draw=>(regC Pr ops draw).bind fun r=>.mk (fun run rd σ ds h n kn _=>r run rd σ ds h n kn,fun _=>none))
 (fun _ _ a b=>a.bind fun A=>b.bind fun B=>Prod.rec (fun a1 a2=>Prod.rec (fun b1 _=>.mk (fun run rd σ ds h n kn kx=>a1 run rd σ ds h n (fun σ ds h n=>b1 run rd σ ds h n kn kx) kx,
  fun l=>Option.rec (B.2 l) (fun g=>some fun run rd σ ds h n kn kx=>g run rd σ ds h n (fun σ ds h n=>b1 run rd σ ds h n kn kx) kx) (a2 l))) B) A)
 (fun x _ _ a b=>(evC x).bind fun e=>a.bind fun A=>b.bind fun B=>Prod.rec (fun a1 _=>Prod.rec (fun b1 _=>.mk (fun run rd σ ds h n kn kx=>on (e σ) (V.onBool fun t=>Bool.rec (b1 run rd σ ds h n kn kx) (a1 run rd σ ds h n kn kx) t),fun _=>none)) B) A)
 (fun id _ a=>a.bind fun A=>Prod.rec (fun a1 _=>.mk (blockX id a1,fun _=>none)) A)
 (fun _ a=>a.bind fun A=>Prod.rec (fun a1 _=>.mk (loopX a1,fun _=>none)) A)
 (fun g ps asg body _ _=>.mk (rangeX Pr m g ps.toList asg body,fun _=>none))
 (fun id=>.mk (fun _ _ σ ds h n _ kx=>kx (.exit id) σ ds h n,fun _=>none))
 (fun _ a=>a.bind fun A=>Prod.rec (fun a1 a2=>.mk (scopeX a1 a2,fun _=>none)) A)
 (fun l=>.mk (fun _ _ σ ds h n kn _=>kn σ ds h n,fun l'=>Bool.rec none (some fun _ _ σ ds h n kn _=>kn σ ds h n) (Nat.beq l l')))
 (fun l=>.mk (fun _ _ σ ds h n _ kx=>kx (.goto l) σ ds h n,fun _=>none))
 (.mk (fun _ _ σ ds h n _ kx=>kx .ret σ ds h n,fun _=>none))
 (fun _=>.mk (fun _ _ _ _ _ _ _ _=>none,fun _=>none)) c
theorem exC_eq (m:Nat) (c:Code):(exC (β:=β) Pr m c).op=ex2 Pr m c:=by
 induction c with
 | skip=>rfl
 | region id ops draw=>show ((regC Pr ops draw).bind fun r=>.mk (fun run rd σ ds h n kn _=>r run rd σ ds h n kn,fun _=>none):Bx (CX β)).op=_;rw [op_bind,regC_eq];rfl
 | seq a b iha ihb=>show ((exC Pr m a).bind fun A=>(exC Pr m b).bind fun B=>Prod.rec (fun a1 a2=>Prod.rec (fun b1 _=>.mk (fun run rd σ ds h n kn kx=>a1 run rd σ ds h n (fun σ ds h n=>b1 run rd σ ds h n kn kx) kx,
  fun l=>Option.rec (B.2 l) (fun g=>some fun run rd σ ds h n kn kx=>g run rd σ ds h n (fun σ ds h n=>b1 run rd σ ds h n kn kx) kx) (a2 l))) B) A:Bx (CX β)).op=_;rw [op_bind,op_bind,iha,ihb];rfl
 | cond x a b iha ihb=>show ((evC x).bind fun e=>(exC Pr m a).bind fun A=>(exC Pr m b).bind fun B=>Prod.rec (fun a1 _=>Prod.rec (fun b1 _=>.mk (fun run rd σ ds h n kn kx=>on (e σ) (V.onBool fun t=>Bool.rec (b1 run rd σ ds h n kn kx) (a1 run rd σ ds h n kn kx) t),fun _=>none)) B) A:Bx (CX β)).op=_;rw [op_bind,op_bind,op_bind,iha,ihb,evC_eq];rfl
 | block id a ih=>show ((exC Pr m a).bind fun A=>Prod.rec (fun a1 _=>.mk (blockX id a1,fun _=>none)) A:Bx (CX β)).op=_;rw [op_bind,ih];rfl
 | loop a ih=>show ((exC Pr m a).bind fun A=>Prod.rec (fun a1 _=>.mk (loopX a1,fun _=>none)) A:Bx (CX β)).op=_;rw [op_bind,ih];rfl
 | rangeFunc g ps asg body _ _=>rfl
 | exit id=>rfl
 | scope a ih=>show ((exC Pr m a).bind fun A=>Prod.rec (fun a1 a2=>.mk (scopeX a1 a2,fun _=>none)) A:Bx (CX β)).op=_;rw [op_bind,ih];rfl
 | label l=>rfl
 | goto l=>rfl
 | ret=>rfl
 | refuse _=>rfl
def exec' (m:Nat) (c:Code):EX β:=(exC Pr m c).op.1
theorem exec'_eq (m:Nat) (c:Code):exec' (β:=β) Pr m c=exec Pr m c:=by unfold exec' exec;rw [exC_eq]
/-! ### Calls -/
def putK {α γ:Type} (x:Option α) (p:P):T α→(T α→γ)→γ:=
 P.rec (fun t k=>T.rec (k (.n x .e .e)) (fun _ l r _ _=>k (.n x l r)) t) (fun _ ih t k=>T.rec (ih .e fun l=>k (.n none l .e)) (fun v l r _ _=>ih l fun l'=>k (.n v l' r)) t)
  (fun _ ih t k=>T.rec (ih .e fun r=>k (.n none .e r)) (fun v l r _ _=>ih r fun r'=>k (.n v l r')) t) p
theorem putK_eq {α γ:Type} (x:Option α) (p:P):∀ (t:T α) (k:T α→γ),putK x p t k=k (T.put x p t):=by
 induction p with
 | z=>intro t k;cases t <;> rfl
 | l p ih=>intro t k;cases t <;> exact ih _ _
 | r p ih=>intro t k;cases t <;> exact ih _ _
def initC (m:Nat):Bx (T V):=Nat.rec (.mk .e) (fun i ih=>ih.bind fun t=>forceP (pathOf i) fun q=>putK (some undefV) q t fun t'=>.mk t') m
theorem initC_eq (m:Nat):(initC m).op=initT m:=by
 induction m with
 | zero=>rfl
 | succ m ih=>show ((initC m).bind fun t=>forceP (pathOf m) fun q=>putK (some undefV) q t fun t'=>Bx.mk t').op=_;rw [op_bind,forceP_eq,putK_eq,ih];rfl
def funC (fn:Func) (c:Code) (lv:Run→KN β):Bx (Run→List V→T Blk→P→Option β):=(exC Pr fn.ntmps c).bind fun A=>(initC fn.ntmps).bind fun σ0=>Prod.rec (fun a1 _=>.mk fun run as h n=>
 Bool.rec none (a1 run none (putArgs as .z σ0) [] h n (lv run) (onlyRet (lv run))) (Nat.ble (lenL as) fn.ntmps)) A
theorem funC_eq (fn:Func) (c:Code) (lv:Run→KN β):(funC Pr fn c lv).op=bodyX Pr fn c lv:=by
 unfold funC
 rw [op_bind,op_bind,exC_eq,initC_eq];rfl
def callNY (b:Bool) (f:FuncId) (run:Run) (as:List V) (h:T Blk) (n:P):Option Res:=Option.rec none (fun fc=>on ((funC Pr fc.1 fc.2 (candK Pr fc.1)).op run as h n) fun c=>Cand.rec (fun r=>on ((funC Pr fc.1 fc.2 (chkK Pr (pruneR b h r) fc.1)).op run as h n) fun _=>some (pruneR b h r)) c) (enters Pr f)
theorem callNY_eq (b:Bool) (f:FuncId):callNY Pr b f=callN Pr b f:=by
 funext run as h n
 unfold callNY callN
 simp only [funC_eq]
def callBY (f:FuncId):Run→List V→T Blk→P→Option Res:=Option.rec (fun _ _ _ _=>none) (fun fc=>(funC Pr fc.1 fc.2 (leaveX Pr fc.1)).op) (enters Pr f)
theorem callBY_eq (f:FuncId):callBY Pr f=callB Pr f:=by
 unfold callBY callB
 cases enters Pr f with
 | some fc=>exact funC_eq Pr fc.1 fc.2 _
 | none=>cases Pr.funcs[f]? <;> rfl
def callY (hk:Hooks) (f:FuncId):Run→List V→T Blk→P→Option Res:=Option.rec (callBY Pr f) (fun x=>Hk.rec (fun g _ as h n=>g as h n) (fun b=>callNY Pr b f) (fun _ _ _ _ _=>none) (fun g run as h n=>Option.rec (callBY Pr f run as h n) some (g as h n)) x) (hk f)
theorem callY_eq (hk:Hooks) (f:FuncId):callY Pr hk f=callF Pr hk f:=by
 unfold callY callF
 rw [callBY_eq]
 cases hk f with
 | some g=>cases g with
  | fn g=>rfl
  | nd b=>show callNY Pr b f=callN Pr b f;exact callNY_eq Pr b f
  | dn k=>rfl
  | pf g=>rfl
 | none=>rfl
def dcallBY (f:FuncId):Run→List V→T Blk→P→Option Res:=Option.rec (fun _ _ _ _=>none) (fun fc=>(funC Pr fc.1 fc.2 (fun _=>leave0 Pr fc.1)).op) (enters Pr f)
theorem dcallBY_eq (f:FuncId):dcallBY Pr f=dcallB Pr f:=by
 unfold dcallBY dcallB
 cases enters Pr f with
 | some fc=>exact funC_eq Pr fc.1 fc.2 _
 | none=>rfl
def dcallY (hk:Hooks) (f:FuncId):Run→List V→T Blk→P→Option Res:=Option.rec (dcallBY Pr f) (fun x=>Hk.rec (fun _=>dcallBY Pr f) (fun _=>dcallBY Pr f) idleH (fun _=>dcallBY Pr f) x) (hk f)
theorem dcallY_eq (hk:Hooks) (f:FuncId):dcallY Pr hk f=dcallF Pr hk f:=by
 unfold dcallY dcallF
 rw [dcallBY_eq]
def roundY (run:Run) (l:P) (as:List V) (h:T Blk) (n:P):Option Res:=on (T.get l h) (Blk.onLoop fun _ _ σ m ps asg body _=>Bool.rec none
 (exec' Pr m asg run (some l) (zipPut ps as σ) [] h n (fun σ ds h n=>on (T.get l h) (Blk.onLoop fun st pend σ0 m0 ps0 a0 b0 d0=>LoopState.rec
  (exec' Pr m body run (some l) σ ds (T.put (some (.loop .busy pend σ0 m0 ps0 a0 b0 d0)) l h) n (fun _ _ h n=>endRound l none h n) (fun x _ _ h n=>endRound l (some x) h n)) none none none st)) (fun _ _ _ _ _=>none)) (Nat.beq (lenL as) (lenL ps)))
theorem roundY_eq (run:Run) (l:P) (as:List V) (h:T Blk) (n:P):roundY Pr run l as h n=roundF Pr run l as h n:=by
 unfold roundY roundF
 simp only [exec'_eq]
def runY (hk:Hooks) (d:Nat):Run:=Nat.rec (motive:=fun _=>Run) (fun _ _ _=>none) (fun _ ih t=>Task.rec (fun f as=>callY Pr hk f ih as) (fun f as=>dcallY Pr hk f ih as) (fun l as=>roundY Pr ih l as) t) d
theorem runY_eq (hk:Hooks):∀ d,runY Pr hk d=runX Pr hk d
 | 0=>rfl
 | d+1=>by
  funext t h n
  have ih:=runY_eq hk d
  cases t with
  | call f as=>show callY Pr hk f (runY Pr hk d) as h n=callF Pr hk f (runX Pr hk d) as h n;rw [ih,callY_eq]
  | dcall f as=>show dcallY Pr hk f (runY Pr hk d) as h n=dcallF Pr hk f (runX Pr hk d) as h n;rw [ih,dcallY_eq]
  | round l as=>show roundY Pr (runY Pr hk d) l as h n=roundF Pr (runX Pr hk d) l as h n;rw [ih,roundY_eq]
end
end
end Go.Lk
