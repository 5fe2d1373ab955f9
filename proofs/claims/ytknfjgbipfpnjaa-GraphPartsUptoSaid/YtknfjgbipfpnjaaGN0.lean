/- A graph laid out in memory: what the walks know of it. -/
import Derived.Test.YtknfjgbipfpnjaaG5
import Derived.Test.YtknfjgbipfpnjaaGK
namespace Go.Proofs.Ytknfjgbipfpnjaa
open Go.RowKit Go.Eng Go.OrdPure
def ixS (ns : List ByteArray) (s : ByteArray) : Nat := ns.findIdx fun x => decide (x = s)
theorem ixS_lt {ns : List ByteArray} {s : ByteArray} (h : s ∈ ns) : ixS ns s < ns.length := List.findIdx_lt_length_of_exists ⟨s, h, by simp⟩
theorem ixS_el {ns : List ByteArray} {s : ByteArray} (h : s ∈ ns) : el ns (ixS ns s) = s := by
  have := List.findIdx_getElem (w := ixS_lt h)
  simp only [decide_eq_true_eq] at this
  rw [el_eq (ixS_lt h)]; exact this
theorem SX.irr (x : ByteArray) : ¬ Op.bytesLess x.toList x.toList = true := fun h => by rw [bl_irr] at h; cases h
theorem SX.lt {ns : List ByteArray} (h : SX ns) {i j : Nat} (hij : i < j) (hj : j < ns.length) : Op.bytesLess (el ns i).toList (el ns j).toList = true := by
  rw [el_eq (by omega), el_eq hj]; exact List.pairwise_iff_getElem.1 h i j (by omega) hj hij
theorem SX.inj {ns : List ByteArray} (h : SX ns) {i j : Nat} (hi : i < ns.length) (hj : j < ns.length) (e : el ns i = el ns j) : i = j := by
  rcases Nat.lt_trichotomy i j with h1 | h1 | h1
  · have := h.lt h1 hj; rw [e] at this; exact absurd this (SX.irr _)
  · exact h1
  · have := h.lt h1 hi; rw [e] at this; exact absurd this (SX.irr _)
theorem el_memS {ns : List ByteArray} {i : Nat} (h : i < ns.length) : el ns i ∈ ns := by rw [el_eq h]; exact List.getElem_mem _
theorem ixS_of_el {ns : List ByteArray} (h : SX ns) {i : Nat} (hi : i < ns.length) : ixS ns (el ns i) = i := h.inj (ixS_lt (el_memS hi)) hi (ixS_el (el_memS hi))
/-- the edges that leave node a, of the first i -/
def rowU (ns : List ByteArray) (es : List Edge) (i a : Nat) : List Nat := (List.range i).filter fun k => decide (ixS ns (el es k).1 = a)
def rowS (ns : List ByteArray) (es : List Edge) (a : Nat) : List Nat := rowU ns es es.length a
def rowsU (ns : List ByteArray) (es : List Edge) (i : Nat) : List (List Nat) := (List.range ns.length).map (rowU ns es i)
theorem rowU_succ (ns : List ByteArray) (es : List Edge) (i a : Nat) : rowU ns es (i + 1) a = if ixS ns (el es i).1 = a then rowU ns es i a ++ [i] else rowU ns es i a := by
  unfold rowU
  rw [List.range_succ, List.filter_append]
  by_cases h : ixS ns (el es i).1 = a <;> simp [h]
theorem rowsU_len (ns : List ByteArray) (es : List Edge) (i : Nat) : (rowsU ns es i).length = ns.length := by simp [rowsU]
theorem rowsU_el {ns : List ByteArray} {es : List Edge} {i a : Nat} (ha : a < ns.length) : el (rowsU ns es i) a = rowU ns es i a := by
  rw [el_eq (by simpa [rowsU] using ha)]; simp [rowsU]
theorem rowsU_zero (ns : List ByteArray) (es : List Edge) : rowsU ns es 0 = List.replicate ns.length [] := by
  refine list_ext_el (by simp [rowsU]) fun i hi => ?_
  rw [rowsU_len] at hi
  rw [rowsU_el hi, el_replicate hi]; simp [rowU]
theorem rowsU_succ {ns : List ByteArray} {es : List Edge} {i a : Nat} (ha : ixS ns (el es i).1 = a) (hn : a < ns.length) : rowsU ns es (i + 1) = (rowsU ns es i).set a (el (rowsU ns es i) a ++ [i]) := by
  refine list_ext_el (by simp [rowsU]) fun j hj => ?_
  rw [rowsU_len] at hj
  rw [rowsU_el hj, rowU_succ]
  by_cases h : a = j
  · subst h; rw [if_pos ha, el_set_same (by simpa [rowsU] using hj), rowsU_el hj]
  · rw [if_neg (by rw [ha]; exact h), el_set_ne h, rowsU_el hj]
theorem mem_rowU {ns : List ByteArray} {es : List Edge} {i a k : Nat} : k ∈ rowU ns es i a ↔ k < i ∧ ixS ns (el es k).1 = a := by simp [rowU]
theorem rowU_len (ns : List ByteArray) (es : List Edge) (i a : Nat) : (rowU ns es i a).length ≤ i := by
  have := List.length_filter_le (fun k => decide (ixS ns (el es k).1 = a)) (List.range i)
  rw [List.length_range] at this; exact this
structure NetD where
  lo : Nat
  na : Option Addr
  nc : Nat
  bm : Nat
  mn : Nat
  bo : Nat
  vs : List Value
structure Net (w : World) (g : Nat) (D : NetD) (ns : List ByteArray) (es : List Edge) : Prop where
  sx : SX ns
  blk : Blk w.heap g [.slice D.na ns.length D.nc, .map (some D.bm), .slice (some ⟨D.bo, 0, none⟩) ns.length ns.length] 65
  nodes : Own w.heap D.lo 9 1 (.slice D.na ns.length D.nc) ns.length (flat enS ns)
  nocap : D.nc ≤ 9223372036854775807 ∧ ns.length ≤ D.nc
  map : OMap Try.prog 9 3 w D.bm D.mn (· ∈ ns) (fun s => ((ixS ns s : Nat) : Int))
  vlen : D.vs.length = ns.length
  out : Cells w.heap D.bo 0 (flat enV D.vs)
  rows : ∀ a, a < ns.length → ∃ q c, el D.vs a = .slice q (rowS ns es a).length c ∧ Src w.heap (.slice q (rowS ns es a).length c) (rowS ns es a).length 1 (flat enN (rowS ns es a))
  ends : ∀ k, k < es.length → (el es k).1 ∈ ns ∧ (el es k).2.1 ∈ ns
  fit : ns.length ≤ 4194304 ∧ es.length ≤ 1048576
  fitn : ∀ s ∈ ns, s.size ≤ maxLen
theorem OMap.belowW {P : Program} {k e : TypeId} {w w' : World} {b n : Nat} {ks : ByteArray → Prop} {f : ByteArray → Int} (h : OMap P k e w b n ks f) (hb : Below w.heap.size w w') : OMap P k e w' b n ks f := h.block (hb.block _ h.lt)
theorem Net.below {w w' : World} {g : Nat} {D : NetD} {ns : List ByteArray} {es : List Edge} (h : Net w g D ns es) (hb : Below w.heap.size w w') : Net w' g D ns es :=
  ⟨h.sx, h.blk.keep (hb.block _ h.blk.lt), h.nodes.kept (fun b _ hlt => hb.block b hlt), h.nocap, OMap.belowW h.map hb, h.vlen, h.out.below hb, fun a ha => let ⟨q, c, e, hs⟩ := h.rows a ha; ⟨q, c, e, hs.below hb⟩, h.ends, h.fit, h.fitn⟩
/-- texts that are no longer than a text can be -/
def FitS (xs : List ByteArray) : Prop := ∀ s ∈ xs, s.size ≤ maxLen
def FitE (xs : List Edge) : Prop := ∀ x ∈ xs, x.1.size ≤ maxLen ∧ x.2.1.size ≤ maxLen
theorem el_memE {xs : List Edge} {i : Nat} (h : i < xs.length) : el xs i ∈ xs := by rw [el_eq h]; exact List.getElem_mem _
theorem nodesL_fit {ns : List ByteArray} {es : List Edge} (h1 : FitS ns) (h2 : FitE es) : FitS (nodesL ns es) := fun s hs => by
  rcases nodesL_mem.1 hs with h | ⟨e, he, rfl | rfl⟩
  · exact h1 s h
  · exact (h2 e he).1
  · exact (h2 e he).2
theorem namesL_len (ns : List ByteArray) : (namesL ns).length ≤ ns.length := by
  induction ns using Go.OrdPure.rev_ind with
  | h0 => simp [namesL]
  | h1 xs x ih => rw [namesL_snoc]; have := putL_len (namesL xs) x; simp; omega
theorem edgesL_len (l : List ByteArray) (es : List Edge) : (edgesL l es).length ≤ l.length + 2 * es.length := by
  induction es using Go.OrdPure.rev_ind with
  | h0 => simp [edgesL]
  | h1 xs x ih => rw [edgesL_snoc]; have := putL_len (putL (edgesL l xs) x.1) x.2.1; have := putL_len (edgesL l xs) x.1; simp; omega
theorem nodesL_len (ns : List ByteArray) (es : List Edge) : (nodesL ns es).length ≤ ns.length + 2 * es.length := by
  have := edgesL_len (namesL ns) es; have := namesL_len ns; unfold nodesL; omega
/-- what has been met when the names and the first i edges have been -/
def MetN (xs : List ByteArray) (i : Nat) (s : ByteArray) : Prop := ∃ j, j < i ∧ el xs j = s
def MetE (xs : List ByteArray) (es : List Edge) (i : Nat) (s : ByteArray) : Prop := MetN xs xs.length s ∨ ∃ j, j < i ∧ ((el es j).1 = s ∨ (el es j).2.1 = s)
theorem MetN_mem {xs : List ByteArray} {s : ByteArray} : MetN xs xs.length s ↔ s ∈ xs := ⟨fun ⟨_, hj, e⟩ => e ▸ el_memS hj, fun h => ⟨ixS xs s, ixS_lt h, ixS_el h⟩⟩
theorem MetN_succ {xs : List ByteArray} {i : Nat} {s : ByteArray} : (s = el xs i ∨ MetN xs i s) ↔ MetN xs (i + 1) s := by
  constructor
  · rintro (rfl | ⟨j, hj, e⟩)
    · exact ⟨i, by omega, rfl⟩
    · exact ⟨j, by omega, e⟩
  · rintro ⟨j, hj, e⟩
    by_cases h : j = i
    · subst h; exact .inl e.symm
    · exact .inr ⟨j, by omega, e⟩
theorem MetE_succ {xs : List ByteArray} {es : List Edge} {i : Nat} {s : ByteArray} : (s = (el es i).2.1 ∨ s = (el es i).1 ∨ MetE xs es i s) ↔ MetE xs es (i + 1) s := by
  constructor
  · rintro (rfl | rfl | h | ⟨j, hj, e⟩)
    · exact .inr ⟨i, by omega, .inr rfl⟩
    · exact .inr ⟨i, by omega, .inl rfl⟩
    · exact .inl h
    · exact .inr ⟨j, by omega, e⟩
  · rintro (h | ⟨j, hj, e⟩)
    · exact .inr (.inr (.inl h))
    · by_cases h : j = i
      · subst h
        rcases e with e | e
        · exact .inr (.inl e.symm)
        · exact .inl e.symm
      · exact .inr (.inr (.inr ⟨j, by omega, e⟩))
theorem MetE_zero {xs : List ByteArray} {es : List Edge} {s : ByteArray} : MetN xs xs.length s ↔ MetE xs es 0 s := ⟨.inl, fun h => h.elim id fun ⟨_, hj, _⟩ => absurd hj (by omega)⟩
theorem MetE_mem {xs : List ByteArray} {es : List Edge} {s : ByteArray} : MetE xs es es.length s ↔ s ∈ nodesL xs es := by
  rw [nodesL_mem]
  unfold MetE
  rw [MetN_mem]
  constructor
  · rintro (h | ⟨j, hj, e | e⟩)
    · exact .inl h
    · exact .inr ⟨_, el_memE hj, .inl e.symm⟩
    · exact .inr ⟨_, el_memE hj, .inr e.symm⟩
  · rintro (h | ⟨x, hx, e⟩)
    · exact .inl h
    · obtain ⟨j, hj, rfl⟩ := List.getElem_of_mem hx
      refine .inr ⟨j, hj, ?_⟩
      rw [el_eq hj]
      exact e.imp Eq.symm Eq.symm
theorem MetN_fit {xs : List ByteArray} (h : FitS xs) {i : Nat} (hi : i ≤ xs.length) {s : ByteArray} (hm : MetN xs i s) : s.size ≤ maxLen := by
  obtain ⟨j, hj, rfl⟩ := hm; exact h _ (el_memS (by omega))
/-- the distinct texts that have come out, and those that are left -/
theorem nodup_out {ks left : ByteArray → Prop} {K : List ByteArray} (h1 : K.Nodup) (h2 : ∀ s, s ∈ K ↔ ks s ∧ ¬ left s) {z : ByteArray} (hz : left z) (hk : ∀ s, left s → ks s) : (K ++ [z]).Nodup ∧ ∀ s, s ∈ K ++ [z] ↔ ks s ∧ ¬ (left s ∧ s ≠ z) := by
  refine ⟨?_, fun s => ?_⟩
  · rw [List.nodup_append]
    exact ⟨h1, by simp, fun a ha b hb => by rw [List.mem_singleton] at hb; subst hb; rintro rfl; exact ((h2 a).1 ha).2 hz⟩
  · rw [List.mem_append, List.mem_singleton, h2]
    constructor
    · rintro (⟨a, b⟩ | rfl)
      · exact ⟨a, fun h => b h.1⟩
      · exact ⟨hk _ hz, fun h => h.2 rfl⟩
    · rintro ⟨a, b⟩
      by_cases e : s = z
      · exact .inr e
      · exact .inl ⟨a, fun h => b ⟨h, e⟩⟩
end Go.Proofs.Ytknfjgbipfpnjaa
