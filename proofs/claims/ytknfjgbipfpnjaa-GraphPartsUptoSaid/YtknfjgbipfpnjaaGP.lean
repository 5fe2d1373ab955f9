/- The parts in their order: what the queue keeps. Plain. -/
import Derived.Test.YtknfjgbipfpnjaaG14
namespace Go.Proofs.Ytknfjgbipfpnjaa
open Go.RowKit Go.Eng Go.OrdPure Go.Knot Go.HeapPure
theorem el_memL {α : Type} [Inhabited α] {xs : List α} {i : Nat} (h : i < xs.length) : el xs i ∈ xs := by rw [el_eq h]; exact List.getElem_mem _
def Mut (es : List Edge) (a b : ByteArray) : Prop := Rch es [a] b ∧ Rch es [b] a
def FreeIn (es : List Edge) (left : List ByteArray) (s : ByteArray) : Prop := ∀ z, Rch es [s] z → Mut es s z ∨ z ∉ left
/-- again and again the first node's part that is free -/
inductive Gre (es : List Edge) : List ByteArray → List (List ByteArray) → Prop
  | nil : Gre es [] []
  | step {left left' p : List ByteArray} {s : ByteArray} {R : List (List ByteArray)} : SX left → s ∈ left → FreeIn es left s → (∀ z ∈ left, Op.bytesLess z.toList s.toList = true → ¬ FreeIn es left z) → SX p → (∀ z, z ∈ p ↔ Mut es s z) → SX left' → (∀ z, z ∈ left' ↔ z ∈ left ∧ z ∉ p) → Gre es left' R → Gre es left (p :: R)
theorem Gre.uniq {es : List Edge} {left : List ByteArray} {P Q : List (List ByteArray)} (h : Gre es left P) (k : Gre es left Q) : P = Q := by
  induction h generalizing Q with
  | nil =>
    cases k with
    | nil => rfl
    | step _ h2 => simp at h2
  | @step left left' p s R h1 h2 h3 h4 h5 h6 h7 h8 _ ih =>
    cases k with
    | nil => simp at h2
    | @step _ left2 p2 s2 R2 k1 k2 k3 k4 k5 k6 k7 k8 k9 =>
      have e : s = s2 := by
        rcases txt_cases s s2 with ⟨q, _⟩ | ⟨q, _⟩ | ⟨q, _⟩
        · exact absurd h3 (k4 s h2 q)
        · exact q
        · exact absurd k3 (h4 s2 k2 q)
      subst e
      have ep : p = p2 := SX.ext h5 k5 fun z => (h6 z).trans (k6 z).symm
      subst ep
      have el' : left' = left2 := SX.ext h7 k7 fun z => (h8 z).trans (k8 z).symm
      subst el'
      rw [ih k9]
section
variable (ns : List ByteArray) (es : List Edge) (Pn : List Nat)
/-- the edges between unlike parts: where to, where from -/
def Xs (i : Nat) : List (Nat × Nat) := ((List.range i).filter fun k => decide (pF ns es Pn k ≠ pT ns es Pn k)).map fun k => (pT ns es Pn k, pF ns es Pn k)
end
section
variable {ns : List ByteArray} {es : List Edge} {Pn : List Nat} {m : Nat}
theorem Xs_yes {i : Nat} (h : pF ns es Pn i ≠ pT ns es Pn i) : Xs ns es Pn (i + 1) = Xs ns es Pn i ++ [(pT ns es Pn i, pF ns es Pn i)] := by
  unfold Xs; rw [List.range_succ, List.filter_append, List.map_append]; simp [h]
theorem Xs_no {i : Nat} (h : pF ns es Pn i = pT ns es Pn i) : Xs ns es Pn (i + 1) = Xs ns es Pn i := by
  unfold Xs; rw [List.range_succ, List.filter_append, List.map_append]; simp [h]
theorem Xs_len (i : Nat) : (Xs ns es Pn i).length ≤ i := by
  unfold Xs; rw [List.length_map]; have := List.length_filter_le (fun k => decide (pF ns es Pn k ≠ pT ns es Pn k)) (List.range i); simpa using this
theorem Xs_mem {i : Nat} {p : Nat × Nat} : p ∈ Xs ns es Pn i ↔ ∃ k, k < i ∧ pF ns es Pn k ≠ pT ns es Pn k ∧ p = (pT ns es Pn k, pF ns es Pn k) := by
  unfold Xs
  simp only [List.mem_map, List.mem_filter, List.mem_range, decide_eq_true_eq]
  exact ⟨fun ⟨k, ⟨h1, h2⟩, h3⟩ => ⟨k, h1, h2, h3.symm⟩, fun ⟨k, h1, h2, h3⟩ => ⟨k, ⟨h1, h2⟩, h3.symm⟩⟩
end
def wt (X : List (Nat × Nat)) (em : List Nat) (a : Nat) : Nat := (X.filter fun p => decide (p.2 = a ∧ p.1 ∉ em)).length
theorem wt_snoc (X : List (Nat × Nat)) (q : Nat × Nat) (a : Nat) : wt (X ++ [q]) [] a = wt X [] a + if q.2 = a then 1 else 0 := by
  unfold wt; rw [List.filter_append, List.length_append]; by_cases h : q.2 = a <;> simp [h]
theorem wt_le (X : List (Nat × Nat)) (em : List Nat) (a : Nat) : wt X em a ≤ X.length := List.length_filter_le _ _
theorem wt_em {em : List Nat} {i : Nat} (hi : i ∉ em) (a : Nat) : ∀ X : List (Nat × Nat), wt X em a = wt X (em ++ [i]) a + ((X.filter fun x => decide (x.1 = i)).map (·.2)).count a
  | [] => rfl
  | p :: X => by
    have ih := wt_em hi a X
    unfold wt at *
    by_cases h1 : p.1 = i
    · have h3 : p.1 ∉ em := by rw [h1]; exact hi
      by_cases h2 : p.2 = a
      · simp [h1, h2, hi] at *; omega
      · simp [h1, h2] at *; omega
    · by_cases h2 : p.2 = a
      · by_cases h3 : p.1 ∈ em
        · simp [h1, h2, h3] at *; omega
        · simp [h1, h2, h3] at *; omega
      · simp [h1, h2] at *; omega
theorem wt_zero {X : List (Nat × Nat)} {em : List Nat} {a : Nat} : wt X em a = 0 ↔ ∀ p ∈ X, p.2 = a → p.1 ∈ em := by
  unfold wt
  rw [List.length_eq_zero_iff, List.filter_eq_nil_iff]
  simp only [decide_eq_true_eq, not_and, Classical.not_not]
structure PQ (m : Nat) (X : List (Nat × Nat)) (em rest W : List Nat) (H : List (Nat × Nat)) : Prop where
  wl : W.length = m
  en : em.Nodup
  el_ : ∀ x ∈ em, x < m
  val : ∀ a, a < m → el W a = wt X em a + rest.count a
  hn : (H.map (·.1)).Nodup
  hm : ∀ z, z ∈ H.map (·.1) ↔ z < m ∧ z ∉ em ∧ el W z = 0
  cl : ∀ p ∈ X, p.2 ∈ em → p.1 ∈ em
/-- the first pushes -/
structure PQ0 (m : Nat) (W : List Nat) (i : Nat) (H : List (Nat × Nat)) : Prop where
  hn : (H.map (·.1)).Nodup
  hm : ∀ z, z ∈ H.map (·.1) ↔ z < i ∧ el W z = 0
section
variable {m : Nat} {X : List (Nat × Nat)} {em rest W : List Nat} {H H' : List (Nat × Nat)} {i a nx : Nat}
theorem PQ0.nil (m : Nat) (W : List Nat) : PQ0 m W 0 [] := ⟨by simp, fun z => by simp⟩
theorem PQ0.skip (h : PQ0 m W i H) (hw : ¬ el W i = 0) : PQ0 m W (i + 1) H := ⟨h.hn, fun z => by
  rw [h.hm]
  constructor
  · rintro ⟨h1, h2⟩; exact ⟨by omega, h2⟩
  · rintro ⟨h1, h2⟩
    by_cases e : z = i
    · subst e; exact absurd h2 hw
    · exact ⟨by omega, h2⟩⟩
theorem PQ0.push (h : PQ0 m W i H) (hw : el W i = 0) (hp : H'.Perm (H ++ [(i, nx)])) : PQ0 m W (i + 1) H' := by
  have hp2 := hp.map (·.1)
  rw [List.map_append] at hp2
  refine ⟨hp2.nodup_iff.2 ?_, fun z => ?_⟩
  · rw [List.nodup_append]
    refine ⟨h.hn, by simp, fun x hx y hy => ?_⟩
    have hy : y = i := by simpa using hy
    subst hy; rintro rfl
    have := ((h.hm _).1 hx).1; omega
  · rw [hp2.mem_iff, List.mem_append, h.hm]
    simp only [List.map_cons, List.map_nil, List.mem_singleton]
    constructor
    · rintro (⟨h1, h2⟩ | rfl)
      · exact ⟨by omega, h2⟩
      · exact ⟨by omega, hw⟩
    · rintro ⟨h1, h2⟩
      by_cases e : z = i
      · exact .inr e
      · exact .inl ⟨by omega, h2⟩
theorem PQ0.lt (h : PQ0 m W i H) : H.length ≤ i := by
  have := nodup_le (L := List.range i) h.hn fun s hs => List.mem_range.2 ((h.hm s).1 hs).1
  simpa using this
theorem PQ0.hem (h : PQ0 m W i H) (hi : i ≤ m) : ∀ k, k < H.length → (el H k).1 < m := fun k hk => by
  have := ((h.hm (el H k).1).1 (by rw [el_eq hk]; exact List.mem_map_of_mem (List.getElem_mem _))).1
  omega
theorem PQ0.done (h : PQ0 m W m H) (hl : W.length = m) (hv : ∀ a, a < m → el W a = wt X [] a) : PQ m X [] [] W H :=
  ⟨hl, List.nodup_nil, fun x hx => by simp at hx, fun a ha => by rw [hv a ha]; simp, h.hn, fun z => by rw [h.hm]; simp, fun p _ hp => by simp at hp⟩
theorem PQ.hlen (h : PQ m X em rest W H) : H.length ≤ m := by
  have := nodup_le (L := List.range m) h.hn fun s hs => List.mem_range.2 ((h.hm s).1 hs).1
  simpa using this
theorem PQ.hem (h : PQ m X em rest W H) : ∀ k, k < H.length → (el H k).1 < m := fun k hk => ((h.hm (el H k).1).1 (by rw [el_eq hk]; exact List.mem_map_of_mem (List.getElem_mem _))).1
theorem PQ.emlen (h : PQ m X em rest W H) : em.length ≤ m := by
  have := nodup_le (L := List.range m) h.en fun s hs => List.mem_range.2 (h.el_ s hs)
  simpa using this
/-- the heap gives out its first -/
theorem PQ.pop (h : PQ m X em [] W H) (h0 : 0 < H.length) (hp : H.Perm (el H 0 :: H')) : PQ m X (em ++ [(el H 0).1]) ((X.filter fun x => decide (x.1 = (el H 0).1)).map (·.2)) W H' := by
  have hp2 := hp.map (·.1)
  have hnd := hp2.nodup_iff.1 h.hn
  rw [List.map_cons, List.nodup_cons] at hnd
  have hi := (h.hm (el H 0).1).1 (hp2.mem_iff.2 (by simp))
  refine ⟨h.wl, ?_, ?_, ?_, hnd.2, ?_, ?_⟩
  · rw [List.nodup_append]
    exact ⟨h.en, by simp, fun x hx y hy => by
      have hy : y = (el H 0).1 := by simpa using hy
      subst hy; rintro rfl; exact hi.2.1 hx⟩
  · intro x hx
    rcases List.mem_append.1 hx with hx | hx
    · exact h.el_ x hx
    · have hx : x = (el H 0).1 := by simpa using hx
      subst hx; exact hi.1
  · intro a ha
    rw [h.val a ha, wt_em hi.2.1]; simp
  · intro z
    have h1 := h.hm z
    rw [hp2.mem_iff, List.map_cons, List.mem_cons] at h1
    rw [List.mem_append, List.mem_singleton]
    constructor
    · intro hz
      obtain ⟨q1, q2, q3⟩ := h1.1 (.inr hz)
      refine ⟨q1, fun hc => ?_, q3⟩
      rcases hc with hc | hc
      · exact q2 hc
      · subst hc; exact hnd.1 hz
    · rintro ⟨q1, q2, q3⟩
      exact (h1.2 ⟨q1, fun hc => q2 (.inl hc), q3⟩).resolve_left (fun e => q2 (.inr e))
  · intro p hpX hpe
    rcases List.mem_append.1 hpe with hpe | hpe
    · exact List.mem_append_left _ (h.cl p hpX hpe)
    · have hpe : p.2 = (el H 0).1 := by simpa using hpe
      have hz := h.val _ hi.1
      rw [hi.2.2] at hz
      have hz0 : wt X em (el H 0).1 = 0 := by omega
      exact List.mem_append_left _ (wt_zero.1 hz0 p hpX hpe)
theorem PQ.waitpos (h : PQ m X em (a :: rest) W H) (ha : a < m) : 0 < el W a := by rw [h.val a ha, List.count_cons_self]; omega
/-- one edge into the part that came out -/
theorem PQ.keep (h : PQ m X em (a :: rest) W H) (ha : a < m) (hw : ¬ el W a - 1 = 0) : PQ m X em rest (W.set a (el W a - 1)) H := by
  have hal : a < W.length := by rw [h.wl]; exact ha
  have hv := h.val a ha
  refine ⟨by rw [List.length_set]; exact h.wl, h.en, h.el_, fun b hb => ?_, h.hn, fun z => ?_, h.cl⟩
  · by_cases e : a = b
    · subst e; rw [el_set_same hal, hv]; simp
    · rw [el_set_ne e, h.val b hb]; simp [e]
  · rw [h.hm]
    by_cases e : a = z
    · subst e; rw [el_set_same hal]
      exact ⟨fun q => by omega, fun q => absurd q.2.2 hw⟩
    · rw [el_set_ne e]
theorem PQ.push (h : PQ m X em (a :: rest) W H) (ha : a < m) (hae : a ∉ em) (hw : el W a - 1 = 0) (hp : H'.Perm (H ++ [(a, nx)])) : PQ m X em rest (W.set a (el W a - 1)) H' := by
  have hal : a < W.length := by rw [h.wl]; exact ha
  have hv := h.val a ha
  have hpos := h.waitpos ha
  have hno : a ∉ H.map (·.1) := fun hm => by have := ((h.hm a).1 hm).2.2; omega
  have hp2 := hp.map (·.1)
  rw [List.map_append] at hp2
  refine ⟨by rw [List.length_set]; exact h.wl, h.en, h.el_, fun b hb => ?_, hp2.nodup_iff.2 ?_, fun z => ?_, h.cl⟩
  · by_cases e : a = b
    · subst e; rw [el_set_same hal, hv]; simp
    · rw [el_set_ne e, h.val b hb]; simp [e]
  · rw [List.nodup_append]
    exact ⟨h.hn, by simp, fun x hx y hy => by
      have hy : y = a := by simpa using hy
      subst hy; rintro rfl; exact hno hx⟩
  · rw [hp2.mem_iff, List.mem_append, h.hm]
    simp only [List.map_cons, List.map_nil, List.mem_singleton]
    by_cases e : a = z
    · subst e; rw [el_set_same hal]
      exact ⟨fun _ => ⟨ha, hae, hw⟩, fun _ => .inr rfl⟩
    · rw [el_set_ne e]
      exact ⟨fun q => q.resolve_right (Ne.symm e), .inl⟩
theorem PQ.full (h : PQ m X em [] W []) (hX : ∀ p ∈ X, p.1 < p.2) : ∀ z, z < m → z ∈ em := by
  intro z
  induction z using Nat.strongRecOn with
  | _ z ih =>
    intro hz
    refine Classical.byContradiction fun hn => ?_
    have h0 : wt X em z = 0 := wt_zero.2 fun p hp he => ih p.1 (by have := hX p hp; omega) (by have := hX p hp; omega)
    have := (h.hm z).2 ⟨hz, hn, by rw [h.val z hz, h0]; simp⟩
    simp at this
end
theorem PQ.back {m : Nat} {X : List (Nat × Nat)} {em W : List Nat} {H : List (Nat × Nat)} (h : PQ m X em [] W H) (hX : ∀ p ∈ X, p.1 < p.2 ∧ p.2 < m) (h0 : 0 < H.length) {a : Nat} (ha : a ∈ (X.filter fun x => decide (x.1 = (el H 0).1)).map (·.2)) : a < m ∧ a ∉ em ++ [(el H 0).1] := by
  obtain ⟨p, hp, rfl⟩ := List.mem_map.1 ha
  obtain ⟨h1, h2⟩ := List.mem_filter.1 hp
  have h2 : p.1 = (el H 0).1 := by simpa using h2
  have hx := hX p h1
  have hi := (h.hm (el H 0).1).1 (by rw [el_eq h0]; exact List.mem_map_of_mem (List.getElem_mem _))
  refine ⟨hx.2, fun hm => ?_⟩
  rcases List.mem_append.1 hm with hm | hm
  · have := h.cl p h1 hm
    rw [h2] at this; exact hi.2.1 this
  · have hm : p.2 = (el H 0).1 := by simpa using hm
    omega
/-- the members of the parts -/
def zipS (ns : List ByteArray) (Pn : List Nat) (i : Nat) : List (Nat × ByteArray) := (List.range i).map fun k => (el Pn k, el ns k)
theorem zipS_succ (ns : List ByteArray) (Pn : List Nat) (i : Nat) : zipS ns Pn (i + 1) = zipS ns Pn i ++ [(el Pn i, el ns i)] := by simp [zipS, List.range_succ]
theorem zipS_len (ns : List ByteArray) (Pn : List Nat) (i : Nat) : (zipS ns Pn i).length = i := by simp [zipS]
def mem_ (ns : List ByteArray) (Pn : List Nat) (m : Nat) : List (List ByteArray) := grp (zipS ns Pn ns.length) m
section
variable {ns : List ByteArray} {es : List Edge} {Pn : List Nat} {m : Nat}
theorem mem_len (ns : List ByteArray) (Pn : List Nat) (m : Nat) : (mem_ ns Pn m).length = m := grp_len _ _
theorem mem_iff (hx : SX ns) {a : Nat} (ha : a < m) {z : ByteArray} : z ∈ el (mem_ ns Pn m) a ↔ z ∈ ns ∧ el Pn (ixS ns z) = a := by
  unfold mem_
  rw [grp_mem ha]
  unfold zipS
  simp only [List.mem_map, List.mem_range, Prod.mk.injEq]
  constructor
  · rintro ⟨k, hk, h1, rfl⟩; exact ⟨el_memS hk, by rw [ixS_of_el hx hk]; exact h1⟩
  · rintro ⟨h1, h2⟩; exact ⟨ixS ns z, ixS_lt h1, h2, ixS_el h1⟩
theorem mem_SX (hx : SX ns) {a : Nat} (ha : a < m) : SX (el (mem_ ns Pn m) a) := by
  unfold mem_
  rw [grp_el ha]
  unfold zipS SX
  refine List.Pairwise.map _ (fun a b h => h) (List.Pairwise.filter _ ?_)
  refine List.pairwise_map.2 (List.pairwise_lt_range.imp_of_mem fun {a b} _ hb hab => ?_)
  exact hx.lt hab (List.mem_range.1 hb)
theorem Kn.memne (hK : Kn ns es Pn m) {a : Nat} (ha : a < m) : 0 < (el (mem_ ns Pn m) a).length := by
  obtain ⟨u, hu, he⟩ := hK.k.use a ha
  have : el ns u ∈ el (mem_ ns Pn m) a := (mem_iff hK.sx ha).2 ⟨el_memS hu, by rw [ixS_of_el hK.sx hu]; omega⟩
  exact List.length_pos_of_mem this
/-- the first of a part -/
def fst_ (ns : List ByteArray) (Pn : List Nat) (m a : Nat) : ByteArray := el (el (mem_ ns Pn m) a) 0
theorem Kn.fst_mem (hK : Kn ns es Pn m) {a : Nat} (ha : a < m) : fst_ ns Pn m a ∈ el (mem_ ns Pn m) a := el_memS (hK.memne ha)
theorem Kn.fst_le (hK : Kn ns es Pn m) {a : Nat} (ha : a < m) {z : ByteArray} (hz : z ∈ el (mem_ ns Pn m) a) : fst_ ns Pn m a = z ∨ Op.bytesLess (fst_ ns Pn m a).toList z.toList = true := by
  obtain ⟨i, hi, rfl⟩ := List.getElem_of_mem hz
  rw [← el_eq hi]
  rcases Nat.eq_zero_or_pos i with e | e
  · subst e; exact .inl rfl
  · exact .inr ((mem_SX hK.sx ha).lt e hi)
def cmpM (ns : List ByteArray) (Pn : List Nat) (m : Nat) (a b : Nat) : Int := txt (fst_ ns Pn m a) (fst_ ns Pn m b)
theorem cmpM_law (ns : List ByteArray) (Pn : List Nat) (m : Nat) : Lawful (cmpM ns Pn m) :=
  ⟨fun a b h => txt_law.asym _ _ h, fun a b h => txt_law.pos _ _ h, fun a b d h1 h2 => txt_law.trans _ _ _ h1 h2⟩
def leftOf (ns : List ByteArray) (Pn em : List Nat) : List ByteArray := ns.filter fun s => decide (el Pn (ixS ns s) ∉ em)
theorem leftOf_mem {em : List Nat} {z : ByteArray} : z ∈ leftOf ns Pn em ↔ z ∈ ns ∧ el Pn (ixS ns z) ∉ em := by simp [leftOf]
/-- what has come out, and what is left -/
def GI (ns : List ByteArray) (es : List Edge) (Pn : List Nat) (m : Nat) (em : List Nat) : Prop := ∀ R, Gre es (leftOf ns Pn em) R → Gre es ns (em.map (fun k => el (mem_ ns Pn m) k) ++ R)
theorem GI.start (ns : List ByteArray) (es : List Edge) (Pn : List Nat) (m : Nat) : GI ns es Pn m [] := fun R h => by
  have : leftOf ns Pn [] = ns := by simp [leftOf]
  rw [this] at h
  simpa using h
theorem Kn.mut (hK : Kn ns es Pn m) {a b : ByteArray} (ha : a ∈ ns) (hb : b ∈ ns) : el Pn (ixS ns a) = el Pn (ixS ns b) ↔ Mut es a b := hK.same ha hb
theorem Kn.rch_in (hK : Kn ns es Pn m) {a b : ByteArray} (ha : a ∈ ns) (h : Rch es [a] b) : b ∈ ns := (Rch_RR hK.sx hK.ends ha h).2
/-- all to which a ready part comes is in it, or has come out -/
theorem ready_reach (hK : Kn ns es Pn m) {em : List Nat} {i : Nat} (hcl : ∀ p ∈ Xs ns es Pn es.length, p.2 ∈ em → p.1 ∈ em) (hr : wt (Xs ns es Pn es.length) em i = 0) {s z : ByteArray} (hs : s ∈ ns) (hsi : el Pn (ixS ns s) = i) (h : Rch es [s] z) :
    el Pn (ixS ns z) = i ∨ el Pn (ixS ns z) ∈ em := by
  induction h with
  | here h1 => rw [List.mem_singleton] at h1; subst h1; exact .inl hsi
  | @step e he _ ih =>
    obtain ⟨k, hk, rfl⟩ := List.getElem_of_mem he
    rw [← el_eq hk] at ih ⊢
    by_cases hx : pF ns es Pn k = pT ns es Pn k
    · unfold pF pT at hx; rw [hx] at ih; exact ih
    · have hm : (pT ns es Pn k, pF ns es Pn k) ∈ Xs ns es Pn es.length := Xs_mem.2 ⟨k, hk, hx, rfl⟩
      rcases ih with ih | ih
      · exact .inr (wt_zero.1 hr _ hm ih)
      · exact .inr (hcl _ hm ih)
theorem GI.step (hK : Kn ns es Pn m) {em W : List Nat} {H : List (Nat × Nat)} (h : GI ns es Pn m em) (hq : PQ m (Xs ns es Pn es.length) em [] W H) (h0 : 0 < H.length) (hh : HP (ah (cmpM ns Pn m)) H) : GI ns es Pn m (em ++ [(el H 0).1]) := by
  intro R hR
  obtain ⟨i, hi⟩ : ∃ i, i = (el H 0).1 := ⟨_, rfl⟩
  rw [← hi] at hR ⊢
  have hin := (hq.hm i).1 (by rw [hi, el_eq h0]; exact List.mem_map_of_mem (List.getElem_mem _))
  have hw0 : wt (Xs ns es Pn es.length) em i = 0 := by have := hq.val i hin.1; rw [hin.2.2] at this; omega
  have hfm := hK.fst_mem hin.1
  have hf := (mem_iff hK.sx hin.1).1 hfm
  rw [List.map_append, List.append_assoc]
  refine h _ ?_
  show Gre es _ (el (mem_ ns Pn m) i :: R)
  have hSXl : ∀ e2 : List Nat, SX (leftOf ns Pn e2) := fun e2 => List.Pairwise.filter _ hK.sx
  refine .step (s := fst_ ns Pn m i) (hSXl _) (leftOf_mem.2 ⟨hf.1, by rw [hf.2]; exact hin.2.1⟩) ?_ ?_ (mem_SX hK.sx hin.1) ?_ (hSXl _) ?_ hR
  · intro z hz
    rcases ready_reach hK hq.cl hw0 hf.1 hf.2 hz with h1 | h1
    · exact .inl ((hK.mut hf.1 (hK.rch_in hf.1 hz)).1 (hf.2.trans h1.symm))
    · exact .inr fun hl => (leftOf_mem.1 hl).2 h1
  · intro z hz hlt hfree
    obtain ⟨hz1, hz2⟩ := leftOf_mem.1 hz
    have hqm : el Pn (ixS ns z) < m := hK.lt (ixS_lt hz1)
    have hwz : wt (Xs ns es Pn es.length) em (el Pn (ixS ns z)) = 0 := by
      refine wt_zero.2 fun p hp hpe => ?_
      obtain ⟨k, hk, hne, rfl⟩ := Xs_mem.1 hp
      have hk1 := hK.ends k hk
      have hm1 := (hK.mut hz1 hk1.1).1 hpe.symm
      have hr : Rch es [z] (el es k).2.1 := hm1.1.trans' (Rch.one (el_memE hk))
      rcases hfree _ hr with hmu | hno
      · exact absurd ((hpe.trans ((hK.mut hz1 hk1.2).2 hmu))) hne
      · refine Classical.byContradiction fun hn => hno (leftOf_mem.2 ⟨hk1.2, hn⟩)
    have hzH := (hq.hm (el Pn (ixS ns z))).2 ⟨hqm, hz2, by rw [hq.val _ hqm, hwz]; simp⟩
    obtain ⟨e, he, hee⟩ := List.mem_map.1 hzH
    obtain ⟨j, hj, rfl⟩ := List.getElem_of_mem he
    have hroot := HP.root (ah_swo (cmpM_law ns Pn m)) hh j hj
    rw [← el_eq hj] at hee
    refine hroot (.inl ?_)
    rw [hee, ← hi]
    have hzm : z ∈ el (mem_ ns Pn m) (el Pn (ixS ns z)) := (mem_iff hK.sx hqm).2 ⟨hz1, rfl⟩
    have hlt2 : Op.bytesLess (fst_ ns Pn m (el Pn (ixS ns z))).toList (fst_ ns Pn m i).toList = true := by
      rcases hK.fst_le hqm hzm with e | e
      · rw [e]; exact hlt
      · exact bl_trans _ _ _ e hlt
    show txt _ _ < 0
    rw [txt_neg hlt2]; omega
  · intro z
    rw [mem_iff hK.sx hin.1]
    constructor
    · rintro ⟨h1, h2⟩; exact (hK.mut hf.1 h1).1 (hf.2.trans h2.symm)
    · intro hm
      have h1 := hK.rch_in hf.1 hm.1
      exact ⟨h1, ((hK.mut hf.1 h1).2 hm).symm.trans hf.2⟩
  · intro z
    rw [leftOf_mem, leftOf_mem, mem_iff hK.sx hin.1, List.mem_append, List.mem_singleton]
    constructor
    · rintro ⟨h1, h2⟩; exact ⟨⟨h1, fun hc => h2 (.inl hc)⟩, fun hc => h2 (.inr hc.2)⟩
    · rintro ⟨⟨h1, h2⟩, h3⟩; exact ⟨h1, fun hc => hc.elim h2 (fun hc => h3 ⟨h1, hc⟩)⟩
theorem Kn.xs_lt (hK : Kn ns es Pn m) : ∀ p ∈ Xs ns es Pn es.length, p.1 < p.2 ∧ p.2 < m := by
  intro p hp
  obtain ⟨k, hk, hne, rfl⟩ := Xs_mem.1 hp
  have := hK.le hk
  exact ⟨by dsimp only; omega, hK.pF_lt hk⟩
theorem GI.done (hK : Kn ns es Pn m) {em W : List Nat} (h : GI ns es Pn m em) (hq : PQ m (Xs ns es Pn es.length) em [] W []) : Gre es ns (em.map fun k => el (mem_ ns Pn m) k) := by
  have hf := hq.full fun p hp => (hK.xs_lt p hp).1
  have : leftOf ns Pn em = [] := by
    unfold leftOf
    rw [List.filter_eq_nil_iff]
    intro s hs
    have := hf _ (hK.lt (ixS_lt hs))
    simp [this]
  have := h [] (by rw [this]; exact .nil)
  rwa [List.append_nil] at this
end
end Go.Proofs.Ytknfjgbipfpnjaa
