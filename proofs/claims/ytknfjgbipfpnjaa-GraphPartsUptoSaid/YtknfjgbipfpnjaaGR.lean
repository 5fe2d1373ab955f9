/- What is reached: the plain law of the two searches. -/
import Derived.Test.YtknfjgbipfpnjaaG7
namespace Go.Proofs.Ytknfjgbipfpnjaa
open Go.RowKit Go.Eng Go.OrdPure
inductive Rch (es : List Edge) (fs : List ByteArray) : ByteArray → Prop
  | here {s : ByteArray} : s ∈ fs → Rch es fs s
  | step {e : Edge} : e ∈ es → Rch es fs e.1 → Rch es fs e.2.1
def IsR (es : List Edge) (fs : List ByteArray) (R : List ByteArray) : Prop := SX R ∧ ∀ s, s ∈ R ↔ Rch es fs s
theorem IsR.uniq {es : List Edge} {fs R R' : List ByteArray} (h : IsR es fs R) (h' : IsR es fs R') : R = R' := SX.ext h.1 h'.1 fun z => (h.2 z).trans (h'.2 z).symm
theorem SX.nodup {R : List ByteArray} (h : SX R) : R.Nodup := h.imp fun {a b} hl => by rintro rfl; exact SX.irr _ hl
theorem Rch.mem {es : List Edge} {fs : List ByteArray} {s : ByteArray} (h : Rch es fs s) : s ∈ nodesL fs es := by
  cases h with
  | here h => exact nodesL_mem.2 (.inl h)
  | step he _ => exact nodesL_mem.2 (.inr ⟨_, he, .inr rfl⟩)
theorem Rch.bnd {es : List Edge} {fs : List ByteArray} {s : ByteArray} (h : Rch es fs s) : s ∈ fs ++ es.map (·.2.1) := by
  cases h with
  | here h => exact List.mem_append_left _ h
  | step he _ => exact List.mem_append_right _ (List.mem_map_of_mem he)
theorem IsR.len {es : List Edge} {fs R : List ByteArray} (h : IsR es fs R) : R.length ≤ fs.length + es.length := by
  have := nodup_le (L := fs ++ es.map (·.2.1)) h.1.nodup fun s hs => ((h.2 s).1 hs).bnd
  simpa using this
/-- a closed list of what is reached is all of it -/
theorem IsR.of {es : List Edge} {fs R : List ByteArray} (h1 : SX R) (h2 : ∀ s ∈ R, Rch es fs s) (h3 : ∀ s ∈ fs, s ∈ R) (h4 : ∀ e ∈ es, e.1 ∈ R → e.2.1 ∈ R) : IsR es fs R := by
  refine ⟨h1, fun s => ⟨h2 s, fun h => ?_⟩⟩
  induction h with
  | here h => exact h3 _ h
  | step he _ ih => exact h4 _ he ih
def enB (x : Bool) : List Value := [.bool x]
theorem enB_len (x : Bool) : (enB x).length = 1 := rfl
theorem flat_repB (n : Nat) (v : Bool) : flat enB (List.replicate n v) = (List.replicate n [Value.bool v]).flatten := by
  induction n with
  | zero => rfl
  | succ n ih => simp only [List.replicate_succ, flat, List.flatMap_cons, List.flatten_cons] at *; rw [ih]; rfl
/-- how many are not yet marked -/
def lft (Sn : List Bool) : Nat := Sn.count false
theorem lft_set : ∀ {Sn : List Bool} {v : Nat}, v < Sn.length → el Sn v = false → lft (Sn.set v true) + 1 = lft Sn
  | [], v, h, _ => absurd h (by simp)
  | b :: Sn, 0, _, h => by
    have : b = false := h
    subst this
    simp [lft]
  | b :: Sn, v + 1, h, hv => by
    have hv' : el Sn v = false := hv
    have := lft_set (Sn := Sn) (v := v) (by simpa using h) hv'
    simp only [lft, List.set_cons_succ, List.count_cons] at *
    omega
theorem lft_rep (n : Nat) : lft (List.replicate n false) = n := by simp [lft]
def tgt (ns : List ByteArray) (es : List Edge) (k : Nat) : Nat := ixS ns (el es k).2.1
structure RInv (ns : List ByteArray) (es : List Edge) (fs : List ByteArray) (i : Nat) (L : List Nat) (O : List ByteArray) (Sn : List Bool) : Prop where
  le : i ≤ L.length
  slen : Sn.length = ns.length
  lt : ∀ x ∈ L, x < ns.length
  seen : ∀ v, v < ns.length → (el Sn v = true ↔ ∃ j, j < i ∧ el L j = v)
  nd : O.Nodup
  out : ∀ s, s ∈ O ↔ ∃ v, v < ns.length ∧ el Sn v = true ∧ el ns v = s
  clo : ∀ v, v < ns.length → el Sn v = true → ∀ k, k < es.length → ixS ns (el es k).1 = v → tgt ns es k ∈ L
  frm : ∀ s ∈ fs, ixS ns s ∈ L
  snd : ∀ x ∈ L, Rch es fs (el ns x)
  bnd : L.length + es.length * lft Sn ≤ fs.length + es.length * ns.length
section
variable {ns : List ByteArray} {es : List Edge} {fs : List ByteArray} {i : Nat} {L : List Nat} {O : List ByteArray} {Sn : List Bool}
theorem RInv.start (hN : ∀ s, s ∈ ns ↔ s ∈ nodesL fs es) : RInv ns es fs 0 (fs.map (ixS ns)) [] (List.replicate ns.length false) := by
  have hin : ∀ s ∈ fs, s ∈ ns := fun s h => (hN s).2 (nodesL_mem.2 (.inl h))
  refine ⟨Nat.zero_le _, by simp, ?_, ?_, List.nodup_nil, ?_, ?_, ?_, ?_, ?_⟩
  · intro x hx
    obtain ⟨s, hs, rfl⟩ := List.mem_map.1 hx
    exact ixS_lt (hin s hs)
  · intro v hv
    rw [el_replicate hv]; simp
  · intro s
    constructor
    · intro h; simp at h
    · rintro ⟨v, hv, h, _⟩; rw [el_replicate hv] at h; cases h
  · intro v hv h
    rw [el_replicate hv] at h; cases h
  · exact fun s hs => List.mem_map_of_mem hs
  · intro x hx
    obtain ⟨s, hs, rfl⟩ := List.mem_map.1 hx
    rw [ixS_el (hin s hs)]; exact .here hs
  · rw [lft_rep]; simp
theorem RInv.at_lt (h : RInv ns es fs i L O Sn) (hi : i < L.length) : el L i < ns.length := h.lt _ (by rw [el_eq hi]; exact List.getElem_mem _)
theorem RInv.len_le (h : RInv ns es fs i L O Sn) : L.length ≤ fs.length + es.length * ns.length := Nat.le_trans (Nat.le_add_right _ _) h.bnd
theorem RInv.skip (h : RInv ns es fs i L O Sn) (hi : i < L.length) (hs : el Sn (el L i) = true) : RInv ns es fs (i + 1) L O Sn := by
  refine ⟨by omega, h.slen, h.lt, fun v hv => ?_, h.nd, h.out, h.clo, h.frm, h.snd, h.bnd⟩
  rw [h.seen v hv]
  constructor
  · rintro ⟨j, hj, e⟩; exact ⟨j, by omega, e⟩
  · rintro ⟨j, hj, e⟩
    by_cases hji : j = i
    · subst hji; subst e; exact (h.seen _ hv).1 hs
    · exact ⟨j, by omega, e⟩
theorem RInv.visit (hx : SX ns) (h : RInv ns es fs i L O Sn) (hi : i < L.length) (hs : el Sn (el L i) = false) (hends : ∀ k, k < es.length → (el es k).2.1 ∈ ns ∧ (el es k).1 ∈ ns) :
    RInv ns es fs (i + 1) (L ++ (rowS ns es (el L i)).map (tgt ns es)) (O ++ [el ns (el L i)]) (Sn.set (el L i) true) := by
  have hv := h.at_lt hi
  have hsl := h.slen
  have hrl : ((rowS ns es (el L i)).map (tgt ns es)).length ≤ es.length := by rw [List.length_map]; exact rowU_len _ _ _ _
  have hmem : ∀ k, k ∈ rowS ns es (el L i) ↔ k < es.length ∧ ixS ns (el es k).1 = el L i := fun k => mem_rowU
  refine ⟨by simp; omega, by simp [hsl], ?_, ?_, ?_, ?_, ?_, fun s hs => List.mem_append_left _ (h.frm s hs), ?_, ?_⟩
  · intro x hx
    rcases List.mem_append.1 hx with hx | hx
    · exact h.lt x hx
    · obtain ⟨k, hk, rfl⟩ := List.mem_map.1 hx
      exact ixS_lt (hends k ((hmem k).1 hk).1).1
  · intro v hv2
    by_cases e : el L i = v
    · subst e
      rw [el_set_same (by omega)]
      exact ⟨fun _ => ⟨i, by omega, el_append_left hi⟩, fun _ => rfl⟩
    · rw [el_set_ne e, h.seen v hv2]
      constructor
      · rintro ⟨j, hj, e2⟩; exact ⟨j, by omega, by rw [el_append_left (by omega)]; exact e2⟩
      · rintro ⟨j, hj, e2⟩
        rw [el_append_left (by omega)] at e2
        by_cases hji : j = i
        · subst hji; exact absurd e2 e
        · exact ⟨j, by omega, e2⟩
  · rw [List.nodup_append]
    refine ⟨h.nd, by simp, fun a ha b hb => ?_⟩
    rw [List.mem_singleton] at hb; subst hb
    rintro rfl
    obtain ⟨v, hv2, h1, h2⟩ := (h.out _).1 ha
    have := hx.inj hv2 hv h2
    rw [this, hs] at h1; cases h1
  · intro s
    rw [List.mem_append, List.mem_singleton, h.out]
    constructor
    · rintro (⟨v, h1, h2, h3⟩ | rfl)
      · refine ⟨v, h1, ?_, h3⟩
        by_cases e : el L i = v
        · subst e; rw [el_set_same (by omega)]
        · rw [el_set_ne e]; exact h2
      · exact ⟨el L i, hv, el_set_same (by omega) _, rfl⟩
    · rintro ⟨v, h1, h2, h3⟩
      by_cases e : el L i = v
      · subst e; exact .inr h3.symm
      · rw [el_set_ne e] at h2; exact .inl ⟨v, h1, h2, h3⟩
  · intro v hv2 hsv k hk hkv
    by_cases e : el L i = v
    · subst e
      exact List.mem_append_right _ (List.mem_map_of_mem ((hmem k).2 ⟨hk, hkv⟩))
    · rw [el_set_ne e] at hsv
      exact List.mem_append_left _ (h.clo v hv2 hsv k hk hkv)
  · intro x hx2
    rcases List.mem_append.1 hx2 with hx2 | hx2
    · exact h.snd x hx2
    · obtain ⟨k, hk, rfl⟩ := List.mem_map.1 hx2
      obtain ⟨h1, h2⟩ := (hmem k).1 hk
      have h3 := h.snd (el L i) (by rw [el_eq hi]; exact List.getElem_mem _)
      rw [← h2, ixS_el (hends k h1).2] at h3
      unfold tgt
      rw [ixS_el (hends k h1).1]
      exact .step (el_memE h1) h3
  · have h1 := lft_set (Sn := Sn) (v := el L i) (by omega) hs
    have h2 := h.bnd
    have h3 : es.length * lft Sn = es.length * lft (Sn.set (el L i) true) + es.length := by rw [← h1, Nat.mul_add, Nat.mul_one]
    rw [List.length_append]; omega
theorem RInv.done (hN : ∀ s, s ∈ ns ↔ s ∈ nodesL fs es) (h : RInv ns es fs L.length L O Sn) (hends : ∀ k, k < es.length → (el es k).1 ∈ ns ∧ (el es k).2.1 ∈ ns) : ∀ s, s ∈ O ↔ Rch es fs s := by
  have hin : ∀ s ∈ fs, s ∈ ns := fun s h => (hN s).2 (nodesL_mem.2 (.inl h))
  have hL : ∀ x, x ∈ L ↔ x < ns.length ∧ el Sn x = true := fun x => by
    constructor
    · intro hx
      refine ⟨h.lt x hx, (h.seen x (h.lt x hx)).2 ?_⟩
      obtain ⟨j, hj, rfl⟩ := List.getElem_of_mem hx
      exact ⟨j, hj, el_eq hj⟩
    · rintro ⟨h1, h2⟩
      obtain ⟨j, hj, rfl⟩ := (h.seen x h1).1 h2
      rw [el_eq hj]; exact List.getElem_mem _
  intro s
  rw [h.out]
  constructor
  · rintro ⟨v, h1, h2, rfl⟩; exact h.snd v ((hL v).2 ⟨h1, h2⟩)
  · intro hr
    have : ixS ns s ∈ L ∧ s ∈ ns := by
      induction hr with
      | here hs => exact ⟨h.frm _ hs, hin _ hs⟩
      | @step e he _ ih =>
        obtain ⟨k, hk, rfl⟩ := List.getElem_of_mem he
        rw [← el_eq hk] at ih ⊢
        exact ⟨h.clo _ (ixS_lt ih.2) ((hL _).1 ih.1).2 k hk rfl, (hends k hk).2⟩
    exact ⟨ixS ns s, ((hL _).1 this.1).1, ((hL _).1 this.1).2, ixS_el this.2⟩
theorem RInv.mu (h : RInv ns es fs i L O Sn) (hi : i < L.length) (hs : el Sn (el L i) = false) :
    lft (Sn.set (el L i) true) * (es.length + 1) + ((L ++ (rowS ns es (el L i)).map (tgt ns es)).length - (i + 1)) < lft Sn * (es.length + 1) + (L.length - i) := by
  have hsl := h.slen
  have hv := h.at_lt hi
  have h1 := lft_set (Sn := Sn) (v := el L i) (by omega) hs
  have hrl : ((rowS ns es (el L i)).map (tgt ns es)).length ≤ es.length := by rw [List.length_map]; exact rowU_len _ _ _ _
  rw [← h1, Nat.add_mul, Nat.one_mul, List.length_append]; omega
end
/-- the document's search: one round over the edges -/
structure Round (es : List Edge) (fs : List ByteArray) (l0 l : List ByteArray) (i : Nat) : Prop where
  sx : SX l
  snd : ∀ s ∈ l, Rch es fs s
  frm : ∀ s ∈ fs, s ∈ l
  sub : ∀ s ∈ l0, s ∈ l
  met : ∀ j, j < i → (el es j).1 ∈ l0 → (el es j).2.1 ∈ l
  len : l0.length ≤ l.length
theorem Round.start {es : List Edge} {fs l : List ByteArray} (h1 : SX l) (h2 : ∀ s ∈ l, Rch es fs s) (h3 : ∀ s ∈ fs, s ∈ l) : Round es fs l l 0 := ⟨h1, h2, h3, fun _ h => h, fun j hj => absurd hj (by omega), Nat.le_refl _⟩
theorem putL_sub {l : List ByteArray} {z s : ByteArray} (h : s ∈ l) : s ∈ putL l z := putL_mem.2 (.inr h)
theorem insS_le (z : ByteArray) (l : List ByteArray) : l.length ≤ (putL l z).length := by unfold putL; split <;> simp [insS_len]
theorem Round.hit {es : List Edge} {fs l0 l : List ByteArray} {i : Nat} (h : Round es fs l0 l i) (hi : i < es.length) (hm : (el es i).1 ∈ l) : Round es fs l0 (putL l (el es i).2.1) (i + 1) := by
  refine ⟨putL_SX h.sx, fun s hs => ?_, fun s hs => putL_sub (h.frm s hs), fun s hs => putL_sub (h.sub s hs), fun j hj hj2 => ?_, Nat.le_trans h.len (insS_le _ _)⟩
  · rcases putL_mem.1 hs with rfl | hs
    · exact .step (el_memE hi) (h.snd _ hm)
    · exact h.snd s hs
  · by_cases e : j = i
    · subst e; exact putL_mem.2 (.inl rfl)
    · exact putL_sub (h.met j (by omega) hj2)
theorem Round.miss {es : List Edge} {fs l0 l : List ByteArray} {i : Nat} (h : Round es fs l0 l i) (hm : ¬ (el es i).1 ∈ l) : Round es fs l0 l (i + 1) := by
  refine ⟨h.sx, h.snd, h.frm, h.sub, fun j hj hj2 => ?_, h.len⟩
  by_cases e : j = i
  · subst e; exact absurd (h.sub _ hj2) hm
  · exact h.met j (by omega) hj2
theorem nodup_eq_len {K L : List ByteArray} (h : SX K) (hL : SX L) (hs : ∀ s ∈ K, s ∈ L) (hl : L.length ≤ K.length) : K = L := by
  refine SX.ext h hL fun z => ⟨hs z, fun hz => ?_⟩
  refine Classical.byContradiction fun hn => ?_
  have := nodup_le (K := z :: K) (L := L) (List.nodup_cons.2 ⟨hn, h.nodup⟩) fun s hsK => by
    rcases List.mem_cons.1 hsK with rfl | hsK
    · exact hz
    · exact hs s hsK
  simp at this; omega
theorem Round.done {es : List Edge} {fs l0 l : List ByteArray} (h : Round es fs l0 l es.length) (h0 : SX l0) (he : l.length = l0.length) : IsR es fs l := by
  have e : l0 = l := nodup_eq_len h0 h.sx h.sub (by omega)
  subst e
  refine IsR.of h.sx h.snd h.frm fun x hx hm => ?_
  obtain ⟨j, hj, rfl⟩ := List.getElem_of_mem hx
  rw [← el_eq hj] at hm ⊢
  exact h.met j hj hm
theorem Round.bnd {es : List Edge} {fs l0 l : List ByteArray} {i : Nat} (h : Round es fs l0 l i) : l.length ≤ fs.length + es.length := by
  have := nodup_le (L := fs ++ es.map (·.2.1)) h.sx.nodup fun s hs => (h.snd s hs).bnd
  simpa using this
end Go.Proofs.Ytknfjgbipfpnjaa
