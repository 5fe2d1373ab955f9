/- The document's Rank: numbers put in by value, the rest behind. Seat-free. -/
import Derived.Test.YtegpcbckiehleaaDoorSSet
namespace Go.Eng
open Go.RowKit Go.OrdPure Go.Flt
theorem Blk.ownN {h : Array Obj} {b lo : Nat} {cs : List Value} {T : TypeId} {k m : Nat} (hb : Blk h b cs T) (hlo : lo ≤ b) (hl : cs.length = m * k) (hm : m ≤ 9223372036854775807) : Own h lo T k (.slice (some ⟨b, 0, none⟩) m m) m cs :=
  OB.own (lo := lo) (c := m) ⟨hlo, ⟨[], by rw [List.append_nil]; exact hb, by rw [List.append_nil]; exact hl⟩, hm⟩ (Nat.le_refl _) hl
theorem apart_where {w w' : World} {A B v' : Value} (hap : ∀ k, A.ownBlock = some k → B.ownBlock ≠ some k) (hW : Where w w' A v') (hB : ∀ k, B.ownBlock = some k → k < w.heap.size) : ∀ k, v'.ownBlock = some k → B.ownBlock ≠ some k := by
  intro k hk e
  rcases hW with h | ⟨_, h⟩
  · exact hap k (h ▸ hk) e
  · have := h k hk; have := hB k e; omega
theorem some_kv {a : ByteArray} (h : (num a).isSome = true) : rkv a = kv ((num a).getD 0) ∧ NN ((num a).getD 0) ∧ rkc a = 0 := by
  unfold rkv rkc
  cases hx : num a with
  | none => rw [hx] at h; cases h
  | some x => exact ⟨rfl, numL_NN hx, rfl⟩
theorem leq_kv {a b : ByteArray} (ha : (num a).isSome = true) (hb : (num b).isSome = true) : (Flt.D.order ((num a).getD 0) ((num b).getD 0) = some .lt ∨ Flt.D.order ((num a).getD 0) ((num b).getD 0) = some .eq) ↔ rkv a ≤ rkv b := by
  obtain ⟨a1, a2, _⟩ := some_kv ha
  obtain ⟨b1, b2, _⟩ := some_kv hb
  rw [a1, b1, order_lt a2 b2, order_eq a2 b2]; omega
theorem rc_both {a b : ByteArray} (ha : (num a).isSome = true) (hb : (num b).isSome = true) : rc0 a b = if icmp (rkv a) (rkv b) = 0 then txt a b else icmp (rkv a) (rkv b) := by
  obtain ⟨_, _, a3⟩ := some_kv ha
  obtain ⟨_, _, b3⟩ := some_kv hb
  unfold rc0; rw [a3, b3, if_pos (icmp_zero.2 rfl)]
theorem rank_ins {O : List ByteArray} {k : Nat} {s : ByteArray} (hO : O.Pairwise fun a b => rc0 a b < 0) (hOs : ∀ a ∈ O, (num a).isSome = true) (hs : (num s).isSome = true) (hk : k ≤ O.length) (h1 : 0 < k → rkv (el O (k - 1)) ≤ rkv s) (h2 : ∀ j, k ≤ j → j < O.length → rkv s < rkv (el O j)) (hlt : ∀ a ∈ O, txt a s < 0) :
    (insAt O k s).Pairwise fun a b => rc0 a b < 0 := by
  refine insAt_strict hO hk (below_all rc_law hO hk fun h0 => ?_) fun j hj hj2 => ?_
  · have hm : el O (k - 1) ∈ O := el_mem' (by omega)
    rw [rc_both (hOs _ hm) hs]
    have := h1 h0
    have ht := hlt _ hm
    split
    · exact ht
    · rename_i hz
      unfold icmp at hz ⊢
      split
      · omega
      · split
        · omega
        · rename_i a b; simp [a, b] at hz
  · have hm : el O j ∈ O := el_mem' hj2
    rw [rc_both hs (hOs _ hm)]
    have := h2 j hj hj2
    have e : icmp (rkv s) (rkv (el O j)) = -1 := by unfold icmp; rw [if_pos this]
    rw [e, if_neg (by decide)]; decide
theorem rank_snoc {Q : List ByteArray} {s : ByteArray} (hQ : Q.Pairwise fun a b => rc0 a b < 0) (hQs : ∀ a ∈ Q, num a = none) (hs : num s = none) (hlt : ∀ a ∈ Q, txt a s < 0) : (Q ++ [s]).Pairwise fun a b => rc0 a b < 0 :=
  List.pairwise_append.2 ⟨hQ, List.pairwise_singleton _ _, fun a ha b hb => by rw [List.mem_singleton] at hb; subst hb; rw [rc_nn (hQs a ha) hs]; exact hlt a ha⟩
/-- what stands behind some of the texts -/
structure RankAt (S O Q : List ByteArray) (i : Nat) : Prop where
  o : O.Pairwise fun a b => rc0 a b < 0
  q : Q.Pairwise fun a b => rc0 a b < 0
  os : ∀ a ∈ O, (num a).isSome = true
  qs : ∀ a ∈ Q, num a = none
  mem : ∀ s, (s ∈ O ∨ s ∈ Q) ↔ s ∈ S.take i
theorem RankAt.zero (S : List ByteArray) : RankAt S [] [] 0 := ⟨List.Pairwise.nil, List.Pairwise.nil, by simp, by simp, by simp⟩
section
variable {S O Q : List ByteArray} {i k : Nat}
theorem RankAt.lt (h : RankAt S O Q i) (hS : S.Pairwise fun a b => txt a b < 0) (hi : i < S.length) : (∀ a ∈ O, txt a (el S i) < 0) ∧ ∀ a ∈ Q, txt a (el S i) < 0 := by
  have key : ∀ a ∈ S.take i, txt a (el S i) < 0 := fun a ha => by
    obtain ⟨j, hj, rfl⟩ := List.getElem_of_mem ha
    rw [List.length_take] at hj
    have := List.pairwise_iff_getElem.1 hS j i (by omega) hi (by omega)
    rw [List.getElem_take, el_eq hi]; exact this
  exact ⟨fun a ha => key a ((h.mem a).1 (.inl ha)), fun a ha => key a ((h.mem a).1 (.inr ha))⟩
theorem RankAt.rest (h : RankAt S O Q i) (hS : S.Pairwise fun a b => txt a b < 0) (hi : i < S.length) (hs : ¬ (num (el S i)).isSome = true) : RankAt S O (Q ++ [el S i]) (i + 1) := by
  have hn : num (el S i) = none := by cases hx : num (el S i) with | none => rfl | some x => rw [hx] at hs; simp at hs
  refine ⟨h.o, rank_snoc h.q h.qs hn (h.lt hS hi).2, h.os, fun a ha => ?_, fun s => ?_⟩
  · rcases List.mem_append.1 ha with ha | ha
    · exact h.qs a ha
    · rw [List.mem_singleton] at ha; subst ha; exact hn
  · rw [take_succ_el hi, List.mem_append, List.mem_append, ← h.mem s, or_assoc]
theorem RankAt.put (h : RankAt S O Q i) (hS : S.Pairwise fun a b => txt a b < 0) (hi : i < S.length) (hs : (num (el S i)).isSome = true) (hk : k ≤ O.length) (h1 : 0 < k → rkv (el O (k - 1)) ≤ rkv (el S i)) (h2 : ∀ j, k ≤ j → j < O.length → rkv (el S i) < rkv (el O j)) : RankAt S (insAt O k (el S i)) Q (i + 1) := by
  refine ⟨rank_ins h.o h.os hs hk h1 h2 (h.lt hS hi).1, h.q, fun a ha => ?_, h.qs, fun s => ?_⟩
  · rcases (insAt_mem _ _ _ _).1 ha with rfl | ha
    · exact hs
    · exact h.os a ha
  · rw [insAt_mem, take_succ_el hi, List.mem_append, List.mem_singleton, ← h.mem s]
    constructor
    · rintro ((h1 | h1) | h1)
      · exact .inr h1
      · exact .inl (.inl h1)
      · exact .inl (.inr h1)
    · rintro ((h1 | h1) | h1)
      · exact .inl (.inr h1)
      · exact .inr h1
      · exact .inl (.inl h1)
theorem RankAt.done {l : List ByteArray} (h : RankAt S O Q S.length) (hm : ∀ s, s ∈ S ↔ s ∈ l) : O ++ Q = rankL l := by
  have hr := rankL_is l
  refine strict_uniq rc_law (fun _ _ => rc_zero) (List.pairwise_append.2 ⟨h.o, h.q, fun a ha b hb => ?_⟩) hr.1 fun t => ?_
  · cases hx : num a with
    | none => have := h.os a ha; rw [hx] at this; cases this
    | some x => rw [rc_sn hx (h.qs b hb)]; decide
  · have := h.mem t
    rw [List.take_length] at this
    rw [List.mem_append, this, hm, hr.2 t]
end
theorem single_set {l : List ByteArray} {R : List Row} (h : tp R = setL (l.map fun s => [s])) : ∃ S : List ByteArray, S.length = R.length ∧ (∀ j, j < R.length → (el R j).2 = [el S j]) ∧ (S.Pairwise fun a b => txt a b < 0) ∧ ∀ s, s ∈ S ↔ s ∈ l := by
  have hI := setL_is (l.map fun s => [s])
  rw [← h] at hI
  have hone : ∀ t ∈ tp R, t = [el t 0] := fun t ht => by
    obtain ⟨s, _, rfl⟩ := List.mem_map.1 ((hI.2 t).1 ht); rfl
  refine ⟨(tp R).map fun t => el t 0, by rw [List.length_map, tp_len], fun j hj => ?_, ?_, fun s => ?_⟩
  · rw [el_map (by rw [tp_len]; exact hj), tp_el hj]
    exact hone _ (el_tp_mem hj)
  · refine List.pairwise_map.2 (hI.1.imp_of_mem fun {a b} ha hb hlt => ?_)
    rw [hone a ha, hone b hb] at hlt
    simp only [tups] at hlt
    split at hlt
    · omega
    · exact hlt
  · rw [List.mem_map]
    constructor
    · rintro ⟨t, ht, rfl⟩
      obtain ⟨s, hs, rfl⟩ := List.mem_map.1 ((hI.2 t).1 ht); exact hs
    · intro hs
      exact ⟨[s], (hI.2 _).2 (List.mem_map.2 ⟨s, hs, rfl⟩), rfl⟩
end Go.Eng
