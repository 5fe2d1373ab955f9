/- The other way round, and twice; turned edges. Plain. -/
import Derived.Test.YtknfjgbipfpnjaaGBr
namespace Go.Proofs.Ytknfjgbipfpnjaa
open Go.RowKit Go.Eng Go.OrdPure Go.Knot
def dupR {α : Type} (xs : List α) (k : Nat) : List α := ((xs.drop k).reverse).flatMap fun x => [x, x]
theorem dupR_end {α : Type} (xs : List α) : dupR xs xs.length = [] := by unfold dupR; rw [List.drop_length]; rfl
theorem dupR_step {α : Type} [Inhabited α] {xs : List α} {j : Nat} (h : j < xs.length) : dupR xs j = dupR xs (j + 1) ++ [el xs j, el xs j] := by
  unfold dupR
  rw [List.drop_eq_getElem_cons h, List.reverse_cons, List.flatMap_append, ← el_eq h]
  rfl
theorem dupR_len {α : Type} (xs : List α) (k : Nat) : (dupR xs k).length = 2 * (xs.length - k) := by
  unfold dupR
  rw [List.length_flatMap]
  have : ∀ l : List α, (l.map fun _ => 2).sum = 2 * l.length := fun l => by
    induction l with
    | nil => rfl
    | cons x l ih => simp only [List.map_cons, List.sum_cons, List.length_cons, ih]; omega
  have h2 := this (xs.drop k).reverse
  simp only [List.length_reverse, List.length_drop] at h2
  rw [← h2]
  rfl
theorem dupR_mem {α : Type} {xs : List α} {z : α} : z ∈ dupR xs 0 ↔ z ∈ xs := by
  unfold dupR; simp
theorem Rch.mono {es es' : List Edge} (h : ∀ e ∈ es, e ∈ es') {fs : List ByteArray} {s : ByteArray} (hr : Rch es fs s) : Rch es' fs s := by
  induction hr with
  | here h => exact .here h
  | step he _ ih => exact .step (h _ he) ih
section
variable {es es' : List Edge} (hm : ∀ e, e ∈ es' ↔ e ∈ es)
include hm
theorem Rch.congr {fs : List ByteArray} {s : ByteArray} : Rch es' fs s ↔ Rch es fs s := ⟨Rch.mono fun e => (hm e).1, Rch.mono fun e => (hm e).2⟩
theorem Mut.congr {a b : ByteArray} : Mut es' a b ↔ Mut es a b := by unfold Mut; rw [Rch.congr hm, Rch.congr hm]
theorem NegLoop.congr : NegLoop es' ↔ NegLoop es := by
  unfold NegLoop
  exact ⟨fun ⟨e, h1, h2, h3⟩ => ⟨e, (hm e).1 h1, h2, (Rch.congr hm).1 h3⟩, fun ⟨e, h1, h2, h3⟩ => ⟨e, (hm e).2 h1, h2, (Rch.congr hm).2 h3⟩⟩
theorem Rule.congr {f : ByteArray → Nat} : Rule es' f ↔ Rule es f := by
  unfold Rule; exact ⟨fun h e he => h e ((hm e).2 he), fun h e he => h e ((hm e).1 he)⟩
theorem IsLev.congr {ns : List ByteArray} {lev : ByteArray → Nat} (h : IsLev ns es' lev) : IsLev ns es lev := ⟨(Rule.congr hm).1 h.rule, fun f hf => h.least f ((Rule.congr hm).2 hf)⟩
theorem FreeIn.congr {left : List ByteArray} {s : ByteArray} : FreeIn es' left s ↔ FreeIn es left s := by
  unfold FreeIn
  exact ⟨fun h z hz => (h z ((Rch.congr hm).2 hz)).imp_left (Mut.congr hm).1, fun h z hz => (h z ((Rch.congr hm).1 hz)).imp_left (Mut.congr hm).2⟩
theorem Gre.congr {left : List ByteArray} {P : List (List ByteArray)} (h : Gre es' left P) : Gre es left P := by
  induction h with
  | nil => exact .nil
  | step h1 h2 h3 h4 h5 h6 h7 h8 _ ih =>
    exact .step h1 h2 ((FreeIn.congr hm).1 h3) (fun z hz hl hf => h4 z hz hl ((FreeIn.congr hm).2 hf)) h5 (fun z => (h6 z).trans (Mut.congr hm)) h7 h8 ih
theorem nodesL_congr {xs xs' : List ByteArray} (hx : ∀ x, x ∈ xs' ↔ x ∈ xs) : nodesL xs' es' = nodesL xs es := by
  refine SX.ext (nodesL_SX _ _) (nodesL_SX _ _) fun z => ?_
  rw [nodesL_mem, nodesL_mem, hx]
  exact ⟨fun h => h.imp_right fun ⟨e, he, h⟩ => ⟨e, (hm e).1 he, h⟩, fun h => h.imp_right fun ⟨e, he, h⟩ => ⟨e, (hm e).2 he, h⟩⟩
theorem levels_same {xs xs' : List ByteArray} (hx : ∀ x, x ∈ xs' ↔ x ∈ xs) {l l' : ByteArray → Nat} (h : IsLev (nodesL xs es) es l) (h' : IsLev (nodesL xs' es') es' l') : ranksOf (nodesL xs es) l = ranksOf (nodesL xs' es') l' := by
  rw [nodesL_congr hm hx] at h' ⊢
  exact h.uniq (h'.congr hm)
theorem parts_same {xs xs' : List ByteArray} (hx : ∀ x, x ∈ xs' ↔ x ∈ xs) {P Q : List (List ByteArray)} (h : Gre es (nodesL xs es) P) (h' : Gre es' (nodesL xs' es') Q) : P = Q := by
  rw [nodesL_congr hm hx] at h'
  exact h.uniq (h'.congr hm)
end
-- turned
theorem turn_turn (e : Edge) : turn (turn e) = e := rfl
theorem mem_turn {es : List Edge} {e : Edge} : e ∈ es.map turn ↔ turn e ∈ es := by
  rw [List.mem_map]
  exact ⟨fun ⟨d, hd, e1⟩ => by rw [← e1]; exact hd, fun h => ⟨_, h, turn_turn e⟩⟩
theorem Rch_turn1 {es : List Edge} {a b : ByteArray} (h : Rch es [a] b) : Rch (es.map turn) [b] a := by
  induction h with
  | here h => rw [List.mem_singleton] at h; subst h; exact Rch.refl' _ _
  | @step e he _ ih => exact (Rch.one (es := es.map turn) (e := turn e) (mem_turn.2 he)).trans' ih
theorem Rch_turn {es : List Edge} {a b : ByteArray} : Rch (es.map turn) [a] b ↔ Rch es [b] a := by
  refine ⟨fun h => ?_, Rch_turn1⟩
  have := Rch_turn1 h
  rwa [List.map_map, show (turn ∘ turn) = id from rfl, List.map_id] at this
theorem Mut_turn {es : List Edge} {a b : ByteArray} : Mut (es.map turn) a b ↔ Mut es a b := by
  unfold Mut; rw [Rch_turn, Rch_turn]; exact And.comm
theorem nodesL_turn (xs : List ByteArray) (es : List Edge) : nodesL xs (es.map turn) = nodesL xs es := by
  refine SX.ext (nodesL_SX _ _) (nodesL_SX _ _) fun z => ?_
  rw [nodesL_mem, nodesL_mem]
  exact ⟨fun h => h.imp_right fun ⟨e, he, h⟩ => ⟨turn e, mem_turn.1 he, h.symm⟩, fun h => h.imp_right fun ⟨e, he, h⟩ => ⟨turn e, mem_turn.2 he, h.symm⟩⟩
-- the parts as sets
theorem Gre.part {es : List Edge} {left : List ByteArray} {P : List (List ByteArray)} (h : Gre es left P) : ∀ p ∈ P, SX p ∧ ∃ s ∈ left, ∀ z, z ∈ p ↔ Mut es s z := by
  induction h with
  | nil => intro p hp; simp at hp
  | @step left left' p s R _ h2 _ _ h5 h6 _ h8 _ ih =>
    intro q hq
    rcases List.mem_cons.1 hq with rfl | hq
    · exact ⟨h5, s, h2, h6⟩
    · obtain ⟨k1, t, k2, k3⟩ := ih q hq
      exact ⟨k1, t, ((h8 t).1 k2).1, k3⟩
theorem Mut.refl (es : List Edge) (a : ByteArray) : Mut es a a := ⟨Rch.refl' _ _, Rch.refl' _ _⟩
theorem Gre.nodup {es : List Edge} {left : List ByteArray} {P : List (List ByteArray)} (h : Gre es left P) : P.Nodup := by
  induction h with
  | nil => exact List.nodup_nil
  | @step left left' p s R _ _ _ _ _ h6 _ h8 h9 ih =>
    refine List.nodup_cons.2 ⟨fun hp => ?_, ih⟩
    obtain ⟨_, t, k2, k3⟩ := h9.part p hp
    exact ((h8 t).1 k2).2 ((k3 t).2 (Mut.refl _ _))
theorem pos_in {P : List (List ByteArray)} {z : ByteArray} (h : pos P z < P.length) : z ∈ el P (pos P z) := by
  have := List.findIdx_getElem (w := h)
  rw [el_eq h]; exact inB_iff.1 this
theorem same_part {es es' : List Edge} {ns : List ByteArray} {P B : List (List ByteArray)} (hM : ∀ a b, Mut es' a b ↔ Mut es a b) (hcl : ∀ s ∈ ns, ∀ z, Mut es s z → z ∈ ns) (hP : Gre es ns P) (hB : Gre es' ns B) : ∀ p ∈ P, ∀ z ∈ p, pos B z < B.length ∧ el B (pos B z) = p := by
  intro p hp z hz
  obtain ⟨h1, s, h2, h3⟩ := hP.part p hp
  have hsz := (h3 z).1 hz
  have hlt := hB.pos_lt z (hcl s h2 z hsz)
  refine ⟨hlt, ?_⟩
  obtain ⟨k1, t, _, k3⟩ := hB.part _ (el_memL hlt)
  have htz := (hM _ _).1 ((k3 z).1 (pos_in hlt))
  refine SX.ext k1 h1 fun y => ?_
  rw [k3, h3, hM]
  exact ⟨fun h => (hsz.trans htz.symm).trans h, fun h => (htz.trans hsz.symm).trans h⟩
theorem parts_le {es es' : List Edge} {ns : List ByteArray} {P B : List (List ByteArray)} (hM : ∀ a b, Mut es' a b ↔ Mut es a b) (hcl : ∀ s ∈ ns, ∀ z, Mut es s z → z ∈ ns) (hP : Gre es ns P) (hB : Gre es' ns B) : P.length ≤ B.length := by
  refine nodup_le hP.nodup fun p hp => ?_
  obtain ⟨_, s, _, h3⟩ := hP.part p hp
  obtain ⟨k1, k2⟩ := same_part hM hcl hP hB p hp s ((h3 s).2 (Mut.refl _ _))
  rw [← k2]; exact el_memL k1
theorem nodes_closed {xs : List ByteArray} {es : List Edge} : ∀ s ∈ nodesL xs es, ∀ z, Mut es s z → z ∈ nodesL xs es := fun s hs z hz => by
  have h1 := hz.1
  cases h1 with
  | here h => rw [List.mem_singleton] at h; subst h; exact hs
  | step he _ => exact nodesL_mem.2 (.inr ⟨_, he, .inr rfl⟩)
structure BackOK (P B : List (List ByteArray)) : Prop where
  len : B.length = P.length
  row : ∀ i, i < P.length → 0 < (el P i).length ∧ pos B (el (el P i) 0) < B.length ∧ el B (pos B (el (el P i) 0)) = el P i
theorem turned_parts {xs : List ByteArray} {es : List Edge} {P B : List (List ByteArray)} (hP : Gre es (nodesL xs es) P) (hB : Gre (es.map turn) (nodesL xs (es.map turn)) B) : BackOK P B := by
  rw [nodesL_turn] at hB
  have hM : ∀ a b, Mut (es.map turn) a b ↔ Mut es a b := fun _ _ => Mut_turn
  have hcl := nodes_closed (xs := xs) (es := es)
  refine ⟨Nat.le_antisymm (parts_le (fun a b => (hM a b).symm) (fun s hs z hz => hcl s hs z ((hM _ _).1 hz)) hB hP) (parts_le hM hcl hP hB), fun i hi => ?_⟩
  have hp := el_memL hi
  obtain ⟨_, s, _, h3⟩ := hP.part _ hp
  have h0 : 0 < (el P i).length := List.length_pos_of_mem ((h3 s).2 (Mut.refl _ _))
  exact ⟨h0, same_part hM hcl hP hB _ hp _ (el_memL h0)⟩
theorem reach_back {es : List Edge} {a b : ByteArray} {R R' : List ByteArray} (h : IsR es [a] R) (h' : IsR (es.map turn) [b] R') : inB R' a = inB R b := by
  rw [Bool.eq_iff_iff, inB_iff, inB_iff, h.2, h'.2]; exact Rch_turn
theorem reach_more {es es' : List Edge} (hm : ∀ e, e ∈ es' ↔ e ∈ es) {a b : ByteArray} {R R' : List ByteArray} (h : IsR es [a] R) (h' : IsR es' [a] R') : inB R' b = inB R b := by
  rw [Bool.eq_iff_iff, inB_iff, inB_iff, h.2, h'.2]; exact Rch.congr hm
end Go.Proofs.Ytknfjgbipfpnjaa
