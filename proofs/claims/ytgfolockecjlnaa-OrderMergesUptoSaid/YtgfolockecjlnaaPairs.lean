/- Two heaps beside each other, the program's and the document's: what they hold is the same. -/
import Derived.Test.YtgfolockecjlnaaFinds
import Derived.Test.YtgfolockecjlnaaRows0
namespace Go.Eng
open Go.RowKit
theorem Blk.neO {h : Array Obj} {lo : Nat} {T T' : TypeId} {k b : Nat} {v : Value} {m : Nat} {cs cs' : List Value} (hb : Blk h b cs T) (ho : Own h lo T' k v m cs') (hT : T ≠ T') : v.ownBlock ≠ some b := by
  intro e
  obtain ⟨_, ⟨rfl, _⟩ | ⟨b1, c1, R1, rfl, _, hB1, _⟩⟩ := ho
  · simp [Value.ownBlock] at e
  simp only [Value.ownBlock, Option.some.injEq] at e
  subst e
  have := hb.symm.trans hB1
  simp only [Option.some.injEq, Obj.cells.injEq] at this
  exact hT this.2.1
theorem Blk.neB {h : Array Obj} {T T' : TypeId} {b b' : Nat} {cs cs' : List Value} (hb : Blk h b cs T) (ho : Blk h b' cs' T') (hT : T ≠ T') : b ≠ b' := by
  rintro rfl
  have := hb.symm.trans ho
  simp only [Option.some.injEq, Obj.cells.injEq] at this
  exact hT this.2.1
end Go.Eng
namespace Go.Proofs.Ytgfolockecjlnaa
open Go.RowKit Go.Eng Go.OrdPure Go.HeapPure
/-- the place of the first of the least of the first i, -1 if there is none -/
def FI (L : List (Int × Int)) (i : Nat) (f : Int) : Prop := (i = 0 → f = -1) ∧ (0 < i → 0 ≤ f ∧ f.toNat < i ∧ (∀ j, j < i → (el L f.toNat).1 ≤ (el L j).1) ∧ ∀ j, j < f.toNat → (el L f.toNat).1 < (el L j).1)
section
variable {L : List (Int × Int)} {i : Nat} {f : Int}
theorem FI.start : FI L 0 (-1) := ⟨fun _ => rfl, fun h => absurd h (by omega)⟩
theorem FI.take (h : FI L i f) (hf : f < 0 ∨ (el L i).1 < (el L f.toNat).1) : FI L (i + 1) ((i : Nat) : Int) := by
  refine ⟨fun h => absurd h (by omega), fun _ => ⟨by omega, by omega, ?_, ?_⟩⟩
  · intro j hj
    show (el L (Int.toNat (i : Int))).1 ≤ _
    rw [Int.toNat_natCast]
    by_cases e : j = i
    · rw [e]; exact Int.le_refl _
    · obtain ⟨h1, h2, h3, _⟩ := h.2 (by omega)
      have := h3 j (by omega)
      rcases hf with hf | hf <;> omega
  · intro j hj
    rw [Int.toNat_natCast] at hj ⊢
    obtain ⟨h1, h2, h3, _⟩ := h.2 (by omega)
    have := h3 j (by omega)
    rcases hf with hf | hf <;> omega
theorem FI.keep (h : FI L i f) (hf : ¬ f < 0) (hl : ¬ (el L i).1 < (el L f.toNat).1) : FI L (i + 1) f := by
  have h0 : 0 < i := by
    rcases Nat.eq_zero_or_pos i with e | e
    · have := h.1 e; omega
    · exact e
  obtain ⟨h1, h2, h3, h4⟩ := h.2 h0
  refine ⟨fun h => absurd h (by omega), fun _ => ⟨h1, by omega, fun j hj => ?_, h4⟩⟩
  by_cases e : j = i
  · rw [e]; omega
  · exact h3 j (by omega)
theorem er_skip (h : (i : Int) = f ∨ i = f.toNat) (hi : i < L.length) : (L.take (i + 1)).eraseIdx f.toNat = (L.take i).eraseIdx f.toNat := by
  have e : f.toNat = i := by omega
  rw [e, take_succ_el hi, List.eraseIdx_append_of_length_le (by rw [List.length_take]; omega), List.eraseIdx_of_length_le (l := L.take i) (by rw [List.length_take]; omega)]
  have e2 : i - (L.take i).length = 0 := by rw [List.length_take]; omega
  rw [e2]; simp
theorem er_step (h : i ≠ f.toNat) (hi : i < L.length) : (L.take (i + 1)).eraseIdx f.toNat = (L.take i).eraseIdx f.toNat ++ [el L i] := by
  rw [take_succ_el hi]
  rcases Nat.lt_or_ge f.toNat i with h1 | h1
  · rw [List.eraseIdx_append_of_lt_length (by rw [List.length_take]; omega)]
  · rw [List.eraseIdx_of_length_le (l := L.take i) (by rw [List.length_take]; omega), List.eraseIdx_of_length_le (by rw [List.length_append, List.length_take, List.length_singleton]; omega)]
end
theorem map_er {α β : Type} (g : α → β) : ∀ (l : List α) (i : Nat), (l.eraseIdx i).map g = (l.map g).eraseIdx i
  | [], _ => rfl
  | _ :: _, 0 => rfl
  | x :: l, i + 1 => by simp only [List.eraseIdx_cons_succ, List.map_cons, map_er g l i]
theorem er_perm {α : Type} : ∀ (l : List α) (i : Nat) (h : i < l.length), (l[i] :: l.eraseIdx i).Perm l
  | [], _, h => absurd h (by simp)
  | _ :: _, 0, _ => List.Perm.refl _
  | x :: l, i + 1, h => by
    have ih := er_perm l i (by simpa using h)
    simp only [List.eraseIdx_cons_succ, List.getElem_cons_succ]
    exact (List.Perm.swap _ _ _).trans (ih.cons x)
/-- what the program's heap holds is what the document's holds, in the order in which it was put in -/
def Mt (es : List ((Int × Int) × Nat)) (L : List (Int × Int)) (nx : Nat) : Prop := ∃ R : List ((Int × Int) × Nat), R.map Prod.fst = L ∧ R.Pairwise (fun a b => a.2 < b.2) ∧ (∀ r ∈ R, r.2 < nx) ∧ es.Perm R
section
variable {es es' : List ((Int × Int) × Nat)} {L : List (Int × Int)} {nx : Nat} {z : Int × Int} {f : Int}
theorem Mt.nil : Mt [] [] 0 := ⟨[], rfl, List.Pairwise.nil, by simp, List.Perm.refl _⟩
theorem Mt.len (h : Mt es L nx) : es.length = L.length := by
  obtain ⟨R, rfl, _, _, hp⟩ := h
  rw [List.length_map]; exact hp.length_eq
theorem Mt.push (h : Mt es L nx) (hp : es'.Perm (es ++ [(z, nx)])) : Mt es' (L ++ [z]) (nx + 1) := by
  obtain ⟨R, rfl, hR, hn, hq⟩ := h
  refine ⟨R ++ [(z, nx)], by simp, ?_, ?_, hp.trans (hq.append_right _)⟩
  · rw [List.pairwise_append]
    refine ⟨hR, List.pairwise_singleton _ _, fun a ha b hb => ?_⟩
    rw [List.mem_singleton] at hb
    subst hb
    exact hn a ha
  · intro r hr
    rcases List.mem_append.1 hr with h | h
    · have := hn r h; omega
    · rw [List.mem_singleton] at h; subst h; exact Nat.lt_succ_self _
theorem el_map_fst {R : List ((Int × Int) × Nat)} {i : Nat} (h : i < R.length) : el (R.map Prod.fst) i = (el R i).1 := by
  rw [el_eq (by rw [List.length_map]; exact h), el_eq h, List.getElem_map]
theorem Mt.rootR {R : List ((Int × Int) × Nat)} (hR : R.Pairwise (fun a b => a.2 < b.2)) (hq : es.Perm R) (hp : HP (ah byc) es) (h0 : 0 < R.length) (hF : FI (R.map Prod.fst) R.length f) : el es 0 = el R f.toNat := by
  obtain ⟨f0, f1, f2, f3⟩ := hF.2 h0
  have hl := hq.length_eq
  have hm : el es 0 ∈ R := hq.mem_iff.1 (by rw [el_eq (by omega)]; exact List.getElem_mem _)
  obtain ⟨q, hq1, hq2⟩ := List.getElem_of_mem hm
  have hmin : ∀ y ∈ R, ¬ ah byc y (el es 0) := fun y hy => by
    obtain ⟨j, hj, rfl⟩ := List.getElem_of_mem (hq.mem_iff.2 hy)
    have := hp.root (ah_swo byc_law) j hj
    rw [el_eq hj] at this
    exact this
  have h1 := hmin (el R f.toNat) (by rw [el_eq f1]; exact List.getElem_mem _)
  have h2 := f2 q hq1
  rw [el_map_fst f1, el_map_fst hq1, el_eq hq1, hq2] at h2
  have h3 : ¬ byc (el R f.toNat).1 (el es 0).1 < 0 := fun h => h1 (.inl h)
  rw [byc_lt] at h3
  have h4 : (el R f.toNat).1.1 = (el es 0).1.1 := by omega
  have h5 : ¬ (el R f.toNat).2 < (el es 0).2 := fun h => h1 (.inr ⟨byc_zero.2 h4, h⟩)
  have h6 : q = f.toNat := by
    rcases Nat.lt_trichotomy q f.toNat with h | h | h
    · have := f3 q h
      rw [el_map_fst f1, el_map_fst hq1, el_eq hq1, hq2] at this
      omega
    · exact h
    · have := List.pairwise_iff_getElem.1 hR f.toNat q f1 hq1 h
      rw [hq2, ← el_eq f1] at this
      exact absurd this h5
  subst h6
  rw [← hq2, el_eq f1]
theorem Mt.root (h : Mt es L nx) (hp : HP (ah byc) es) (h0 : 0 < L.length) (hF : FI L L.length f) : (el es 0).1 = el L f.toNat := by
  obtain ⟨R, rfl, hR, hn, hq⟩ := h
  rw [List.length_map] at h0 hF
  rw [Mt.rootR hR hq hp h0 hF, el_map_fst (hF.2 h0).2.1]
theorem Mt.pop (h : Mt es L nx) (hp : HP (ah byc) es) (h0 : 0 < L.length) (hF : FI L L.length f) (he : es.Perm (el es 0 :: es')) : Mt es' (L.eraseIdx f.toNat) nx := by
  obtain ⟨R, rfl, hR, hn, hq⟩ := h
  rw [List.length_map] at h0 hF
  have hr := Mt.rootR hR hq hp h0 hF
  have hlt := (hF.2 h0).2.1
  refine ⟨R.eraseIdx f.toNat, map_er _ _ _, hR.sublist (List.eraseIdx_sublist _ _), fun r hr => hn r ((List.eraseIdx_sublist _ _).subset hr), ?_⟩
  have h1 : (R[f.toNat] :: R.eraseIdx f.toNat).Perm R := er_perm R f.toNat hlt
  rw [hr, el_eq hlt] at he
  exact ((he.symm.trans hq).trans h1.symm).cons_inv
end
structure PS where
  v : Value
  es : List ((Int × Int) × Nat)
  nx : Nat
  u : Value
  L : List (Int × Int)
instance : Inhabited PS := ⟨⟨.nilFunc, [], 0, .nilFunc, []⟩⟩
structure PairR (h : Array Obj) (lo hb rb : Nat) (X : PS) : Prop where
  heap : HeapR h lo 57 78 3 (enE enT) hb (.func (.func 20) #[] #[]) X.v X.es X.nx
  hp : HP (ah byc) X.es
  rlo : lo ≤ rb
  ref : Blk h rb [X.u] 45
  own : Own h lo 31 2 X.u X.L.length (flat enT X.L)
  mt : Mt X.es X.L X.nx
def foot (hb rb : Nat) (X : PS) (k : Nat) : Prop := k = hb ∨ X.v.ownBlock = some k ∨ k = rb ∨ X.u.ownBlock = some k
section
variable {w w' : World} {S : Nat → Prop} {lo hb rb : Nat} {X : PS}
theorem PairR.lt {h : Array Obj} (hr : PairR h lo hb rb X) {k : Nat} (hk : foot hb rb X k) : lo ≤ k ∧ k < h.size := by
  rcases hk with rfl | hk | rfl | hk
  · exact ⟨hr.heap.ge, hr.heap.blk.lt⟩
  · exact hr.heap.own.lt hk
  · exact ⟨hr.rlo, hr.ref.lt⟩
  · exact hr.own.lt hk
theorem PairR.ext (hr : PairR w.heap lo hb rb X) (h : Ext w w') : PairR w'.heap lo hb rb X := ⟨hr.heap.ext h, hr.hp, hr.rlo, hr.ref.ext h, hr.own.ext h, hr.mt⟩
theorem PairR.mod (hr : PairR w.heap lo hb rb X) (h : Mod S w w') (hd : ∀ k, foot hb rb X k → ¬ S k) : PairR w'.heap lo hb rb X :=
  ⟨hr.heap.mod h (hd _ (.inl rfl)) (fun k e => hd k (.inr (.inl e))), hr.hp, hr.rlo, hr.ref.mod h (hd _ (.inr (.inr (.inl rfl)))), hr.own.mod h fun k e => hd k (.inr (.inr (.inr e))), hr.mt⟩
end
end Go.Proofs.Ytgfolockecjlnaa
