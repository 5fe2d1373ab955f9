/- Slices in a slice, each with a block of its own: families of them, and what a step within one of them leaves of the others. -/
import Derived.Test.YtgfolockecjlnaaFns
namespace Go.Eng
open Go.RowKit
section
variable {w w' : World}
theorem Src.keepB {h h' : Array Obj} {v : Value} {m k : Nat} {cs : List Value} (hs : Src h v m k cs) (e : ∀ b, v.ownBlock = some b → b < h.size → h'[b]? = h[b]?) : Src h' v m k cs := by
  obtain ⟨hl, a, c, rfl, hm, hc, h0⟩ := hs
  refine ⟨hl, a, c, rfl, hm, hc, h0.imp id ?_⟩
  rintro ⟨b, o, rfl, hC⟩
  exact ⟨b, o, rfl, hC.keep (e b rfl hC.lt)⟩
theorem Own.neT {h : Array Obj} {lo lo' : Nat} {T T' : TypeId} {k k' : Nat} {v v' : Value} {m m' : Nat} {cs cs' : List Value} (ho : Own h lo T k v m cs) (ho' : Own h lo' T' k' v' m' cs') (hT : T ≠ T') {b : Nat} (hb : v.ownBlock = some b) : v'.ownBlock ≠ some b := by
  intro hb'
  obtain ⟨_, ⟨rfl, _⟩ | ⟨b1, c1, R1, rfl, _, hB1, _⟩⟩ := ho
  · simp [Value.ownBlock] at hb
  obtain ⟨_, ⟨rfl, _⟩ | ⟨b2, c2, R2, rfl, _, hB2, _⟩⟩ := ho'
  · simp [Value.ownBlock] at hb'
  simp only [Value.ownBlock, Option.some.injEq] at hb hb'
  subst hb; subst hb'
  have := hB1.symm.trans hB2
  simp only [Option.some.injEq, Obj.cells.injEq] at this
  exact hT this.2.1
theorem OB.neT {h : Array Obj} {lo lo' : Nat} {T T' : TypeId} {k k' b c c' : Nat} {cs cs' : List Value} {b' : Nat} (ho : OB h lo T k b c cs) (ho' : OB h lo' T' k' b' c' cs') (hT : T ≠ T') : b ≠ b' := by
  rintro rfl
  obtain ⟨R1, hB1, _⟩ := ho.blk
  obtain ⟨R2, hB2, _⟩ := ho'.blk
  have := hB1.symm.trans hB2
  simp only [Option.some.injEq, Obj.cells.injEq] at this
  exact hT this.2.1
theorem Own.neOB {h : Array Obj} {lo lo' : Nat} {T T' : TypeId} {k k' b c' : Nat} {v : Value} {m : Nat} {cs cs' : List Value} (ho : Own h lo T k v m cs) (ho' : OB h lo' T' k' b c' cs') (hT : T ≠ T') : v.ownBlock ≠ some b := by
  intro hb
  obtain ⟨_, ⟨rfl, _⟩ | ⟨b1, c1, R1, rfl, hlo, hB1, h1, h2, h3⟩⟩ := ho
  · simp [Value.ownBlock] at hb
  simp only [Value.ownBlock, Option.some.injEq] at hb
  subst hb
  obtain ⟨R2, hB2, _⟩ := ho'.blk
  have := hB1.symm.trans hB2
  simp only [Option.some.injEq, Obj.cells.injEq] at this
  exact hT this.2.1
theorem Own.grownT {row : Value} {lo lo' : Nat} {T T' : TypeId} {k k' : Nat} {v : Value} {m m' : Nat} {cs cs' : List Value} (ho : Own w.heap lo T k v m cs) (h : w.grownBy w' row.ownBlock) (hr : Own w.heap lo' T' k' row m' cs') (hT : T ≠ T') : Own w'.heap lo T k v m cs :=
  ho.grown h fun _ hb => ho.neT hr hT hb
theorem OB.grownT {row : Value} {lo lo' : Nat} {T T' : TypeId} {k k' b c : Nat} {m' : Nat} {cs cs' : List Value} (ho : OB w.heap lo T k b c cs) (h : w.grownBy w' row.ownBlock) (hr : Own w.heap lo' T' k' row m' cs') (hT : T' ≠ T) : OB w'.heap lo T k b c cs :=
  ho.grown h (hr.neOB ho hT)
theorem Own.ptT {o : Obj} {lo lo' : Nat} {T T' : TypeId} {k k' b c : Nat} {v : Value} {m : Nat} {cs cs' : List Value} (ho : Own w.heap lo T k v m cs) (h : Pt w w' b o) (hr : OB w.heap lo' T' k' b c cs') (hT : T ≠ T') : Own w'.heap lo T k v m cs :=
  ho.pt h (ho.neOB hr hT)
theorem Own.lenT {α : Type} {enc : α → List Value} {k : Nat} (hk : ∀ x, (enc x).length = k) (h0 : 0 < k) {h : Array Obj} {lo : Nat} {T : TypeId} {v : Value} {m : Nat} {xs : List α} (ho : Own h lo T k v m (flat enc xs)) : xs.length = m := by
  have := ho.1
  rw [flat_length hk] at this
  exact Nat.eq_of_mul_eq_mul_right h0 this
theorem Own.len_val {h : Array Obj} {lo : Nat} {T : TypeId} {k : Nat} {a : Option Addr} {l c m : Nat} {cs : List Value} (ho : Own h lo T k (.slice a l c) m cs) : l = m := (ho.src.capl).1
theorem el_set_same {α : Type} [Inhabited α] {xs : List α} {i : Nat} (h : i < xs.length) (x : α) : el (xs.set i x) i = x := by simp [el, List.getD_eq_getElem?_getD, h]
theorem el_set_ne {α : Type} [Inhabited α] {xs : List α} {i j : Nat} (h : i ≠ j) (x : α) : el (xs.set i x) j = el xs j := by simp [el, List.getD_eq_getElem?_getD, h]
theorem list_ext_el {α : Type} [Inhabited α] {xs ys : List α} (hl : xs.length = ys.length) (h : ∀ i, i < xs.length → el xs i = el ys i) : xs = ys := by
  refine List.ext_getElem hl fun i h1 h2 => ?_
  have := h i h1
  rwa [el_eq h1, el_eq h2] at this
end
end Go.Eng
namespace Go.Proofs.Ytgfolockecjlnaa
open Go.RowKit Go.Eng Go.OrdPure
/-- a slice's parts -/
abbrev S3 := Option Addr × Nat × Nat
def enV (x : S3) : List Value := [.slice x.1 x.2.1 x.2.2]
theorem enV_len (x : S3) : (enV x).length = 1 := rfl
theorem flat_onesV {xs : List S3} : (flat enV xs).all (·.oneCell') = true := by
  induction xs with
  | nil => rfl
  | cons x xs ih => simp only [flat, List.flatMap_cons, List.all_append] at *; rw [ih]; rfl
def sv (x : S3) : Value := .slice x.1 x.2.1 x.2.2
/-- the marks of list j -/
def mk (j m : Nat) : List (Int × Int) := (List.range m).map fun k => (((1000 + j : Nat) : Int), ((k : Nat) : Int))
@[simp] theorem mk_len (j m : Nat) : (mk j m).length = m := by simp [mk]
theorem mk_succ (j m : Nat) : mk j (m + 1) = mk j m ++ [(((1000 + j : Nat) : Int), ((m : Nat) : Int))] := by unfold mk; rw [List.range_succ, List.map_append]; rfl
theorem el_mk {j m k : Nat} (h : k < m) : el (mk j m) k = (((1000 + j : Nat) : Int), ((k : Nat) : Int)) := by simp [mk, el, List.getD_eq_getElem?_getD, h]
theorem mk_pre (j m : Nat) : ∀ k, ∃ R, mk j (m + k) = mk j m ++ R
  | 0 => ⟨[], by simp⟩
  | k + 1 => by
    obtain ⟨R, hR⟩ := mk_pre j m k
    exact ⟨R ++ [_], by rw [← Nat.add_assoc, mk_succ, hR, List.append_assoc]⟩
theorem mk_pre2 (j m k : Nat) (x : Int × Int) : ∃ R, flat enT (mk j (m + k)) ++ enT x = flat enT (mk j m ++ R) := by
  obtain ⟨R, hR⟩ := mk_pre j m k
  exact ⟨R ++ [x], by rw [hR, ← List.append_assoc, flat_append _ (mk j m ++ R), flat_one]⟩
def Dis (vs : List S3) : Prop := ∀ i j, i < vs.length → j < vs.length → i ≠ j → ∀ b, (sv (el vs i)).ownBlock = some b → (sv (el vs j)).ownBlock ≠ some b
section
variable {w w' : World} {vs Ls : List S3} {lo B i : Nat}
def Fam1 (h : Array Obj) (lo : Nat) (vs : List S3) (i : Nat) : Prop := ∀ j, j < vs.length → ∃ Z, Own h lo 31 2 (sv (el vs j)) (el vs j).2.1 (flat enT Z) ∧ (j < i → Z = mk j (el vs j).2.1)
def Fam1x (h : Array Obj) (lo : Nat) (vs : List S3) (i : Nat) : Prop := ∀ j, j < vs.length → j ≠ i → ∃ Z, Own h lo 31 2 (sv (el vs j)) (el vs j).2.1 (flat enT Z) ∧ (j < i → Z = mk j (el vs j).2.1)
theorem Fam1.x {h : Array Obj} (hf : Fam1 h lo vs i) : Fam1x h lo vs i := fun j hj _ => hf j hj
theorem Fam1.ext (hf : Fam1 w.heap lo vs i) (h : Ext w w') : Fam1 w'.heap lo vs i := fun j hj => let ⟨Z, h1, h2⟩ := hf j hj; ⟨Z, h1.ext h, h2⟩
theorem Fam1x.ext (hf : Fam1x w.heap lo vs i) (h : Ext w w') : Fam1x w'.heap lo vs i := fun j hj hn => let ⟨Z, h1, h2⟩ := hf j hj hn; ⟨Z, h1.ext h, h2⟩
theorem Fam1x.pt {o : Obj} {b : Nat} (hf : Fam1x w.heap lo vs i) (h : Pt w w' b o) (hd : Dis vs) (hi : i < vs.length) (hb : (sv (el vs i)).ownBlock = some b) : Fam1x w'.heap lo vs i := fun j hj hn =>
  let ⟨Z, h1, h2⟩ := hf j hj hn
  ⟨Z, h1.pt h (hd i j hi hj (Ne.symm hn) b hb), h2⟩
theorem mk_all {Z : List (Int × Int)} {j m : Nat} (hl : Z.length = m) (h : ∀ q, q < m → el Z q = (((1000 + j : Nat) : Int), ((q : Nat) : Int))) : Z = mk j m :=
  list_ext_el (by simpa using hl) fun q hq => by rw [h q (by omega), el_mk (by omega)]
theorem mk_set {Z : List (Int × Int)} {j k : Nat} (hk : k < Z.length) (h : ∀ q, q < k → el Z q = (((1000 + j : Nat) : Int), ((q : Nat) : Int))) : ∀ q, q < k + 1 → el (Z.set k (((1000 + j : Nat) : Int), ((k : Nat) : Int))) q = (((1000 + j : Nat) : Int), ((q : Nat) : Int)) := by
  intro q hq
  by_cases e : k = q
  · subst e; rw [el_set_same hk]
  · rw [el_set_ne e]; exact h q (by omega)
theorem Fam1x.join {h : Array Obj} (hf : Fam1x h lo vs i) (ho : Own h lo 31 2 (sv (el vs i)) (el vs i).2.1 (flat enT (mk i (el vs i).2.1))) : Fam1 h lo vs (i + 1) := fun j hj => by
  by_cases e : j = i
  · subst e; exact ⟨_, ho, fun _ => rfl⟩
  · obtain ⟨Z, h1, h2⟩ := hf j hj e
    exact ⟨Z, h1, fun h => h2 (by omega)⟩
def Row2 (h : Array Obj) (lo B : Nat) (vs Ls : List S3) (i j : Nat) : Prop :=
  Src h (sv (el vs j)) (el vs j).2.1 2 (flat enT (mk j (el vs j).2.1)) ∧ (i ≤ j → Own h lo 31 2 (sv (el vs j)) (el vs j).2.1 (flat enT (mk j (el vs j).2.1))) ∧
    (j < i → Own h lo 31 2 (sv (el Ls j)) ((el vs j).2.1 + 30) (flat enT (mk j ((el vs j).2.1 + 30))) ∧ ∀ b, (sv (el Ls j)).ownBlock = some b → (sv (el vs j)).ownBlock = some b ∨ B ≤ b)
def Fam2 (h : Array Obj) (lo B : Nat) (vs Ls : List S3) (i : Nat) : Prop := ∀ j, j < vs.length → Row2 h lo B vs Ls i j
def Fam2x (h : Array Obj) (lo B : Nat) (vs Ls : List S3) (i : Nat) : Prop := ∀ j, j < vs.length → j ≠ i → Row2 h lo B vs Ls i j
theorem Fam2.x {h : Array Obj} (hf : Fam2 h lo B vs Ls i) : Fam2x h lo B vs Ls i := fun j hj _ => hf j hj
theorem Row2.ext {j : Nat} (hr : Row2 w.heap lo B vs Ls i j) (h : Ext w w') : Row2 w'.heap lo B vs Ls i j := ⟨hr.1.ext h, fun e => (hr.2.1 e).ext h, fun e => ⟨(hr.2.2 e).1.ext h, (hr.2.2 e).2⟩⟩
theorem Fam2.ext (hf : Fam2 w.heap lo B vs Ls i) (h : Ext w w') : Fam2 w'.heap lo B vs Ls i := fun j hj => (hf j hj).ext h
theorem Fam2x.ext (hf : Fam2x w.heap lo B vs Ls i) (h : Ext w w') : Fam2x w'.heap lo B vs Ls i := fun j hj hn => (hf j hj hn).ext h
theorem Fam1.two {h : Array Obj} (hf : Fam1 h lo vs vs.length) : Fam2 h lo B vs [] 0 := fun j hj => by
  obtain ⟨Z, h1, h2⟩ := hf j hj
  obtain rfl := h2 hj
  exact ⟨h1.src, fun _ => h1, fun h => absurd h (by omega)⟩
/-- the block of the list that grows is none of the others' -/
def MW (B : Nat) (vs Ls : List S3) (i : Nat) (M : S3) : Prop := (∀ b, (sv M).ownBlock = some b → (sv (el vs i)).ownBlock = some b ∨ B ≤ b) ∧ ∀ j, j < i → ∀ b, (sv M).ownBlock = some b → (sv (el Ls j)).ownBlock ≠ some b
def Low (B : Nat) (vs : List S3) : Prop := ∀ j, j < vs.length → ∀ b, (sv (el vs j)).ownBlock = some b → b < B
theorem MW.row {M : S3} (hm : MW B vs Ls i M) (hd : Dis vs) (hl : Low B vs) (hi : i < vs.length) {j : Nat} (hj : j < vs.length) (hn : j ≠ i) : ∀ b, (sv (el vs j)).ownBlock = some b → (sv M).ownBlock ≠ some b := by
  intro b hb hM
  rcases hm.1 b hM with h | h
  · exact hd j i hj hi hn b hb h
  · have := hl j hj b hb; omega
theorem Fam2x.grown {M : S3} (hf : Fam2x w.heap lo B vs Ls i) (h : w.grownBy w' (sv M).ownBlock) (hm : MW B vs Ls i M) (hd : Dis vs) (hl : Low B vs) (hi : i < vs.length) : Fam2x w'.heap lo B vs Ls i := fun j hj hn => by
  obtain ⟨h1, h2, h3⟩ := hf j hj hn
  have hr := hm.row hd hl hi hj hn
  refine ⟨h1.keepB fun b hb hlt => h.block b hlt (Ne.symm (hr b hb)), fun e => (h2 e).grown h hr, fun e => ⟨(h3 e).1.grown h fun b hb hM => hm.2 j e b hM hb, (h3 e).2⟩⟩
/-- the slice of slices grows -/
theorem Fam2x.grownL {v : Value} {m : Nat} {cs : List Value} (hf : Fam2x w.heap lo B vs Ls i) (h : w.grownBy w' v.ownBlock) (hv : Own w.heap B 29 1 v m cs) (hl : Low B vs) : Fam2x w'.heap lo B vs Ls i := fun j hj hn => by
  obtain ⟨h1, h2, h3⟩ := hf j hj hn
  exact ⟨h1.keepB fun b hb hlt => h.block b hlt (fun e => by have := (hv.lt e.symm).1; have := hl j hj b hb; omega), fun e => (h2 e).grownT h hv (by decide), fun e => ⟨(h3 e).1.grownT h hv (by decide), (h3 e).2⟩⟩
theorem Src.grownL {v : Value} {j m : Nat} {k : Nat} {cs cs' : List Value} {m' : Nat} (hs : Src w.heap (sv (el vs j)) m' k cs') (h : w.grownBy w' v.ownBlock) (hv : Own w.heap B 29 1 v m cs) (hl : Low B vs) (hj : j < vs.length) : Src w'.heap (sv (el vs j)) m' k cs' :=
  hs.keepB fun b hb hlt => h.block b hlt (fun e => by have := (hv.lt e.symm).1; have := hl j hj b hb; omega)
/-- the list that grows still begins with what it began with -/
theorem Src.grownM {M : S3} {v : Value} {q k c0 : Nat} {cs : List Value} {b0 : Option Addr} {m : Nat} {Z : List (Int × Int)} (hs : Src w.heap (.slice b0 m c0) m 2 (flat enT Z)) (hz : 0 < m → ∃ b, b0 = some ⟨b, 0, none⟩) (h : w.grownBy w' (sv M).ownBlock) (ho : Own w'.heap lo 31 k v q cs) (hcs : ∃ R, cs = flat enT (Z ++ R))
    (hW : Where w w' (sv M) v) : Src w'.heap (.slice b0 m c0) m 2 (flat enT Z) := by
  rcases hW with hW | ⟨hE, _⟩
  case inr => exact hs.ext hE
  by_cases hne : ∃ b, (Value.slice b0 m c0).ownBlock = some b ∧ (sv M).ownBlock = some b
  · obtain ⟨b, hb, hb'⟩ := hne
    obtain ⟨hl, a, c, he, hm, hc, h0⟩ := hs
    refine ⟨hl, a, c, he, hm, hc, ?_⟩
    rcases Nat.eq_zero_or_pos m with h0' | h0'
    · exact .inl h0'
    obtain ⟨b1, rfl⟩ := hz h0'
    simp only [Value.ownBlock, Option.some.injEq] at hb
    subst hb
    refine .inr ⟨b1, 0, (Value.slice.inj he).1.symm, ?_⟩
    rw [hb'] at hW
    obtain ⟨_, ⟨rfl, _⟩ | ⟨b2, c2, R2, rfl, _, hB2, _⟩⟩ := ho
    · simp [Value.ownBlock] at hW
    simp only [Value.ownBlock, Option.some.injEq] at hW
    subst hW
    obtain ⟨R, rfl⟩ := hcs
    rw [flat_append, List.append_assoc] at hB2
    exact hB2.cells 0 _ fun j hj => by rw [Nat.zero_add, List.getElem?_append_left hj, List.getElem?_eq_getElem hj]
  · exact hs.keepB fun b hb hlt => h.block b hlt (fun e => hne ⟨b, hb, e.symm⟩)
theorem MW.step {M M' : S3} (hm : MW B vs Ls i M) (hW : Where w w' (sv M) (sv M')) (hf : Fam2x w.heap lo B vs Ls i) (hB : B ≤ w.heap.size) (hi : i < vs.length) : MW B vs Ls i M' := by
  rcases hW with hW | ⟨_, hW⟩
  · unfold MW; rw [hW]; exact hm
  · refine ⟨fun b hb => .inr (by have := hW b hb; omega), fun j hj b hb hb' => ?_⟩
    have := (((hf j (by omega) (by omega)).2.2 hj).1.lt hb').2
    have := hW b hb
    omega
theorem MW.start (hf : Fam2 w.heap lo B vs Ls i) (hd : Dis vs) (hl : Low B vs) (hi : i < vs.length) : MW B vs Ls i (el vs i) := by
  refine ⟨fun b hb => .inl hb, fun j hj b hb hb' => ?_⟩
  rcases ((hf j (by omega)).2.2 hj).2 b hb' with h | h
  · exact hd i j hi (by omega) (by omega) b hb h
  · have := hl i hi b hb; omega
def DisL (Ls : List S3) : Prop := ∀ j j', j < Ls.length → j' < Ls.length → j ≠ j' → ∀ b, (sv (el Ls j)).ownBlock = some b → (sv (el Ls j')).ownBlock ≠ some b
theorem el_snoc {xs : List S3} {x : S3} : el (xs ++ [x]) xs.length = x := by
  have := el_append_right (xs := xs) (ys := [x]) (i := 0)
  rwa [Nat.add_zero] at this
theorem Row2.mono {h : Array Obj} {M : S3} {j : Nat} (hi : Ls.length = i) (hn : j ≠ i) (hr : Row2 h lo B vs Ls i j) : Row2 h lo B vs (Ls ++ [M]) (i + 1) j := by
  refine ⟨hr.1, fun e => hr.2.1 (by omega), fun e => ?_⟩
  rw [el_append_left (by omega)]
  exact hr.2.2 (by omega)
theorem Fam2x.join {h : Array Obj} {M : S3} (hf : Fam2x h lo B vs Ls i) (hi : Ls.length = i) (hs : Src h (sv (el vs i)) (el vs i).2.1 2 (flat enT (mk i (el vs i).2.1))) (ho : Own h lo 31 2 (sv M) ((el vs i).2.1 + 30) (flat enT (mk i ((el vs i).2.1 + 30)))) (hm : MW B vs Ls i M) : Fam2 h lo B vs (Ls ++ [M]) (i + 1) := fun j hj => by
  by_cases e : j = i
  · subst e; subst hi
    refine ⟨hs, fun h => absurd h (by omega), fun _ => ?_⟩
    rw [el_snoc]
    exact ⟨ho, hm.1⟩
  · exact (hf j hj e).mono hi e
end
end Go.Proofs.Ytgfolockecjlnaa
