/- What lies apart by the kind of its block; families of rows. Seat-free. -/
import Derived.Test.YtegpcbckiehleaaDoorGM
namespace Go.Eng
open Go.RowKit Go.Maps Go.WideMaps Go.ChangeMaps
def kindOf (h : Array Obj) (b : Nat) : Nat := match h[b]? with
  | some (.cells _ T _) => T + 3
  | some (.map _ _) => 1
  | some (.mapIter _ _ _ _) => 2
  | _ => 0
structure RowK (h : Array Obj) (row : Option Nat) (K : Nat) : Prop where
  k : ∀ b, row = some b → kindOf h b = K
theorem Blk.kind {h : Array Obj} {b : Nat} {cs : List Value} {T : TypeId} (hb : Blk h b cs T) : kindOf h b = T + 3 := by unfold kindOf; rw [hb]
theorem Blk.rowk {h : Array Obj} {b : Nat} {cs : List Value} {T : TypeId} (hb : Blk h b cs T) : RowK h (some b) (T + 3) := ⟨fun _ e => Option.some.inj e ▸ hb.kind⟩
theorem OB.kind {h : Array Obj} {lo : Nat} {T : TypeId} {k b c : Nat} {cs : List Value} (ho : OB h lo T k b c cs) : kindOf h b = T + 3 := let ⟨_, hB, _⟩ := ho.blk; hB.kind
theorem OB.rowk {h : Array Obj} {lo : Nat} {T : TypeId} {k b c : Nat} {cs : List Value} (ho : OB h lo T k b c cs) : RowK h (some b) (T + 3) := ⟨fun _ e => Option.some.inj e ▸ ho.kind⟩
theorem Own.kind {h : Array Obj} {lo : Nat} {T : TypeId} {k : Nat} {v : Value} {m : Nat} {cs : List Value} (ho : Own h lo T k v m cs) {b : Nat} (hv : v.ownBlock = some b) : kindOf h b = T + 3 := by
  obtain ⟨_, ⟨rfl, _⟩ | ⟨b2, c2, R2, rfl, _, hB2, _⟩⟩ := ho
  · simp [Value.ownBlock] at hv
  · simp only [Value.ownBlock, Option.some.injEq] at hv
    subst hv; exact Blk.kind hB2
theorem Own.rowk {h : Array Obj} {lo : Nat} {T : TypeId} {k : Nat} {v : Value} {m : Nat} {cs : List Value} (ho : Own h lo T k v m cs) : RowK h v.ownBlock (T + 3) := ⟨fun _ e => ho.kind e⟩
section
variable {P : Program} {k e : TypeId} {w w' : World} {b n : Nat} {ks : ByteArray → Prop} {f : ByteArray → Int} {row : Option Nat} {K : Nat}
theorem OMap.kind (h : OMap P k e w b n ks f) : kindOf w.heap b = 1 := by
  obtain ⟨_, ⟨es, clock, hb0, _⟩, _⟩ := h
  unfold kindOf; rw [hb0]
theorem OMap.rowk (h : OMap P k e w b n ks f) : RowK w.heap (some b) 1 := ⟨fun _ e => Option.some.inj e ▸ h.kind⟩
theorem OMap.gk (h : OMap P k e w b n ks f) (hg : w.grownBy w' row) (hr : RowK w.heap row K) (hK : 1 ≠ K) : OMap P k e w' b n ks f := h.kept hg fun e => hK (h.kind.symm.trans (hr.k b e.symm))
theorem Pend.kind {t st : Nat} {s : ByteArray} (h : Pend P t k e w b n st s ks f) : kindOf w.heap b = 1 := by
  obtain ⟨es, clock, hb0, _⟩ := h
  unfold kindOf; rw [hb0]
theorem Pend.rowk {t st : Nat} {s : ByteArray} (h : Pend P t k e w b n st s ks f) : RowK w.heap (some b) 1 := ⟨fun _ e => Option.some.inj e ▸ h.kind⟩
theorem ORange.kindR {r cnt : Nat} {left : ByteArray → Prop} (h : ORange P k e w b r n ks f left cnt) : kindOf w.heap r = 2 := by
  obtain ⟨_, _, ⟨es, clock, since, seen, c0, _, _, _, _, hr, _⟩, _⟩ := h
  unfold kindOf; rw [hr]
theorem ORange.rowkR {r cnt : Nat} {left : ByteArray → Prop} (h : ORange P k e w b r n ks f left cnt) : RowK w.heap (some r) 2 := ⟨fun _ e => Option.some.inj e ▸ h.kindR⟩
theorem ORange.gk {r cnt : Nat} {left : ByteArray → Prop} (h : ORange P k e w b r n ks f left cnt) (hg : w.grownBy w' row) (hr : RowK w.heap row K) (h1 : 1 ≠ K) (h2 : 2 ≠ K) : ORange P k e w' b r n ks f left cnt :=
  h.kept hg (fun e => h1 (h.map.kind.symm.trans (hr.k b e.symm))) (fun e => h2 (h.kindR.symm.trans (hr.k r e.symm)))
theorem ORange.ext {r cnt : Nat} {left : ByteArray → Prop} (h : ORange P k e w b r n ks f left cnt) (hx : Ext w w') : ORange P k e w' b r n ks f left cnt := by
  obtain ⟨D, lf, a, c⟩ := h
  refine ⟨D, lf, ?_, c⟩
  have hb := a.owns.lt
  have hr := a.lt
  obtain ⟨es, clock, since, seen, c0, q1, q2, q3, q4, q5, q6⟩ := a
  exact ⟨es, clock, since, seen, c0, (hx.block _ hb).trans q1, q2, q3, q4, (hx.block _ hr).trans q5, q6⟩
theorem Blk.gk {cs : List Value} {T : TypeId} (h : Blk w.heap b cs T) (hg : w.grownBy w' row) (hr : RowK w.heap row K) (hK : T + 3 ≠ K) : Blk w'.heap b cs T := h.grown hg fun e => hK (h.kind.symm.trans (hr.k b e))
theorem OB.gk {lo k c : Nat} {cs : List Value} {T : TypeId} (h : OB w.heap lo T k b c cs) (hg : w.grownBy w' row) (hr : RowK w.heap row K) (hK : T + 3 ≠ K) : OB w'.heap lo T k b c cs := h.grown hg fun e => hK (h.kind.symm.trans (hr.k b e))
theorem Own.gk {lo k m : Nat} {v : Value} {cs : List Value} {T : TypeId} (h : Own w.heap lo T k v m cs) (hg : w.grownBy w' row) (hr : RowK w.heap row K) (hK : T + 3 ≠ K) : Own w'.heap lo T k v m cs := h.grown hg fun b hb e => hK ((h.kind hb).symm.trans (hr.k b e))
theorem Pt.grownBy {o : Obj} (h : Pt w w' b o) : w.grownBy w' (some b) := by
  refine ⟨by rw [h.eq], by rw [h.eq], by rw [h.eq], Nat.le_of_eq h.size.symm, fun i _ hi => h.old fun e => hi (by rw [e])⟩
theorem OMap.at_ne (h : OMap P k e w b n ks f) {b' : Nat} (hk : kindOf w.heap b' ≠ 1) : b ≠ b' := fun e => hk (e ▸ h.kind)
end
/-! rows, each in a block of its own -/
def enV (v : Value) : List Value := [v]
theorem enV_len (v : Value) : (enV v).length = 1 := rfl
def enN (x : Nat) : List Value := [.int .i64 (x : Int)]
theorem enN_len (x : Nat) : (enN x).length = 1 := rfl
theorem flat_onesN {xs : List Nat} : (flat enN xs).all (·.oneCell') = true := by
  induction xs with
  | nil => rfl
  | cons x xs ih => simp only [flat, List.flatMap_cons, List.all_append] at *; rw [ih]; rfl
def enI (x : Int) : List Value := [.int .i64 x]
theorem enI_len (x : Int) : (enI x).length = 1 := rfl
theorem flat_onesI {xs : List Int} : (flat enI xs).all (·.oneCell') = true := by
  induction xs with
  | nil => rfl
  | cons x xs ih => simp only [flat, List.flatMap_cons, List.all_append] at *; rw [ih]; rfl
theorem el_set_same {α : Type} [Inhabited α] {xs : List α} {i : Nat} (h : i < xs.length) (x : α) : el (xs.set i x) i = x := by simp [el, List.getD_eq_getElem?_getD, h]
theorem el_set_ne {α : Type} [Inhabited α] {xs : List α} {i j : Nat} (h : i ≠ j) (x : α) : el (xs.set i x) j = el xs j := by simp [el, List.getD_eq_getElem?_getD, h]
theorem list_ext_el {α : Type} [Inhabited α] {xs ys : List α} (hl : xs.length = ys.length) (h : ∀ i, i < xs.length → el xs i = el ys i) : xs = ys := by
  refine List.ext_getElem hl fun i h1 h2 => ?_
  have := h i h1
  rwa [el_eq h1, el_eq h2] at this
structure Fam {α : Type} (h : Array Obj) (lo : Nat) (T : TypeId) (enc : α → List Value) (vs : List Value) (rows : List (List α)) : Prop where
  len : vs.length = rows.length
  own : ∀ i, i < vs.length → Own h lo T 1 (el vs i) (el rows i).length (flat enc (el rows i))
  apart : ∀ i j b, i < vs.length → j < vs.length → (el vs i).ownBlock = some b → (el vs j).ownBlock = some b → i = j
section
variable {α : Type} {enc : α → List Value} {w w' : World} {lo : Nat} {T : TypeId} {vs : List Value} {rows : List (List α)} {row : Option Nat} {K a : Nat}
theorem Fam.ext (hf : Fam w.heap lo T enc vs rows) (hx : Ext w w') : Fam w'.heap lo T enc vs rows := ⟨hf.len, fun i hi => (hf.own i hi).ext hx, hf.apart⟩
theorem Fam.gk (hf : Fam w.heap lo T enc vs rows) (hg : w.grownBy w' row) (hr : RowK w.heap row K) (hK : T + 3 ≠ K) : Fam w'.heap lo T enc vs rows := ⟨hf.len, fun i hi => (hf.own i hi).gk hg hr hK, hf.apart⟩
theorem Fam.grown (hf : Fam w.heap lo T enc vs rows) (hg : w.grownBy w' row) (hr : ∀ i b, i < vs.length → (el vs i).ownBlock = some b → row ≠ some b) : Fam w'.heap lo T enc vs rows := ⟨hf.len, fun i hi => (hf.own i hi).grown hg fun b hb => hr i b hi hb, hf.apart⟩
theorem Fam.push (hf : Fam w.heap lo T enc vs rows) (ha : a < vs.length) {v' : Value} {xs' : List α} {m : Nat} (hm : m = xs'.length) (hO : Own w'.heap lo T 1 v' m (flat enc xs')) (hG : w.grownBy w' (el vs a).ownBlock) (hW : Where w w' (el vs a) v') : Fam w'.heap lo T enc (vs.set a v') (rows.set a xs') := by
  subst hm
  have hl := hf.len
  have hne : ∀ i b, i < vs.length → i ≠ a → (el vs i).ownBlock = some b → v'.ownBlock ≠ some b := by
    intro i b hi hia hb hv
    rcases hW with h | ⟨_, h⟩
    · exact hia (hf.apart i a b hi ha hb (h ▸ hv))
    · have := ((hf.own i hi).lt hb).2
      have := h b hv
      omega
  refine ⟨by simp [hl], fun i hi => ?_, fun i j b hi hj h1 h2 => ?_⟩
  · rw [List.length_set] at hi
    by_cases e : a = i
    · subst e; rw [el_set_same ha, el_set_same (by omega)]; exact hO
    · rw [el_set_ne e, el_set_ne e]
      exact (hf.own i hi).grown hG fun b hb h => e (hf.apart a i b ha hi h hb)
  · rw [List.length_set] at hi hj
    by_cases e1 : a = i
    · by_cases e2 : a = j
      · omega
      · subst e1
        rw [el_set_same ha] at h1; rw [el_set_ne e2] at h2
        exact absurd h1 (hne j b hj (fun h => e2 h.symm) h2)
    · by_cases e2 : a = j
      · subst e2
        rw [el_set_same ha] at h2; rw [el_set_ne e1] at h1
        exact absurd h2 (hne i b hi (fun h => e1 h.symm) h1)
      · rw [el_set_ne e1] at h1; rw [el_set_ne e2] at h2
        exact hf.apart i j b hi hj h1 h2
theorem Fam.nils (h : Array Obj) (lo : Nat) (T : TypeId) (enc : α → List Value) (n : Nat) : Fam h lo T enc (List.replicate n (.slice none 0 0)) (List.replicate n []) := by
  refine ⟨by simp, fun i hi => ?_, fun i j b hi hj h1 => ?_⟩
  · rw [List.length_replicate] at hi
    rw [el_replicate hi, el_replicate hi]; exact Own.nil _ _ _ _
  · rw [List.length_replicate] at hi
    rw [el_replicate hi] at h1; simp [Value.ownBlock] at h1
theorem flat_repV (n : Nat) (v : Value) : flat enV (List.replicate n v) = (List.replicate n [v]).flatten := by
  induction n with
  | zero => rfl
  | succ n ih => simp only [List.replicate_succ, flat, List.flatMap_cons, List.flatten_cons] at *; rw [ih]; rfl
theorem flat_repN (n : Nat) (v : Nat) : flat enN (List.replicate n v) = (List.replicate n [Value.int .i64 (v : Int)]).flatten := by
  induction n with
  | zero => rfl
  | succ n ih => simp only [List.replicate_succ, flat, List.flatMap_cons, List.flatten_cons] at *; rw [ih]; rfl
theorem flat_repI (n : Nat) (v : Int) : flat enI (List.replicate n v) = (List.replicate n [Value.int .i64 v]).flatten := by
  induction n with
  | zero => rfl
  | succ n ih => simp only [List.replicate_succ, flat, List.flatMap_cons, List.flatten_cons] at *; rw [ih]; rfl
end
theorem regionM1 {P : Program} {Q : Exit → Act → World → Prop} {id : Nat} {l : List Oper} {a : Act} {w : World} (T : Nat → Prop) (L qs : List Nat) (s : Sched) (hm : P.follows .mixedOrders = true) (hfit : s.fits l.toArray L qs = true)
    (h : ∀ w2, Ext w w2 → w2.heap.size = w.heap.size → wpN P l.toArray (NoPanic Q) (fun w' => Mod T w2 w') L qs s a w2) : (Code.region id l.toArray true).wp P Q a w :=
  regionD (fun w' => Mod T w.drew w') L qs s hm hfit (Mod.refl _ _) (h w.drew (Below.refl _ _).drew rfl)
end Go.Eng
