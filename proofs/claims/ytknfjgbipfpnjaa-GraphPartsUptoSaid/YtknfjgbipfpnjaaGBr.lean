/- What bars levels: the round trip, the parts. Plain. -/
import Derived.Test.YtknfjgbipfpnjaaGRs
namespace Go.Proofs.Ytknfjgbipfpnjaa
open Go.RowKit Go.Eng Go.OrdPure Go.Knot
def pos (P : List (List ByteArray)) (z : ByteArray) : Nat := P.findIdx fun x => inB x z
theorem pos_cons (p : List ByteArray) (R : List (List ByteArray)) (z : ByteArray) : pos (p :: R) z = if inB p z = true then 0 else pos R z + 1 := by
  unfold pos; rw [List.findIdx_cons]; cases inB p z <;> simp
theorem prt_pos {P : List (List ByteArray)} {z : ByteArray} (h : pos P z < P.length) : prt P z = ((pos P z : Nat) : Int) := by unfold prt pos at *; rw [if_pos h]
theorem Mut.symm {es : List Edge} {a b : ByteArray} (h : Mut es a b) : Mut es b a := ⟨h.2, h.1⟩
theorem Mut.trans {es : List Edge} {a b c : ByteArray} (h : Mut es a b) (k : Mut es b c) : Mut es a c := ⟨h.1.trans' k.1, k.2.trans' h.2⟩
theorem Gre.pos_lt {es : List Edge} {left : List ByteArray} {P : List (List ByteArray)} (h : Gre es left P) : ∀ z ∈ left, pos P z < P.length := by
  induction h with
  | nil => intro z hz; simp at hz
  | @step left left' p s R _ _ _ _ _ _ _ h8 _ ih =>
    intro z hz
    rw [pos_cons]
    by_cases hp : inB p z = true
    · rw [if_pos hp]; simp
    · rw [if_neg hp]
      have := ih z ((h8 z).2 ⟨hz, fun hm => hp (inB_iff.2 hm)⟩)
      simp only [List.length_cons]; omega
theorem Gre.pos_eq {es : List Edge} {left : List ByteArray} {P : List (List ByteArray)} (h : Gre es left P) : ∀ z ∈ left, ∀ y ∈ left, (pos P z = pos P y ↔ Mut es z y) := by
  induction h with
  | nil => intro z hz; simp at hz
  | @step left left' p s R _ _ _ _ _ h6 _ h8 _ ih =>
    intro z hz y hy
    rw [pos_cons, pos_cons]
    by_cases hp : inB p z = true <;> by_cases hq : inB p y = true
    · rw [if_pos hp, if_pos hq]
      exact ⟨fun _ => ((h6 z).1 (inB_iff.1 hp)).symm.trans ((h6 y).1 (inB_iff.1 hq)), fun _ => rfl⟩
    · rw [if_pos hp, if_neg hq]
      exact ⟨fun e => by omega, fun hm => absurd (inB_iff.2 ((h6 y).2 (((h6 z).1 (inB_iff.1 hp)).trans hm))) hq⟩
    · rw [if_neg hp, if_pos hq]
      exact ⟨fun e => by omega, fun hm => absurd (inB_iff.2 ((h6 z).2 (((h6 y).1 (inB_iff.1 hq)).trans hm.symm))) hp⟩
    · rw [if_neg hp, if_neg hq, ← ih z ((h8 z).2 ⟨hz, fun hm => hp (inB_iff.2 hm)⟩) y ((h8 y).2 ⟨hy, fun hm => hq (inB_iff.2 hm)⟩)]
      omega
theorem Gre.pos_le {es : List Edge} {left : List ByteArray} {P : List (List ByteArray)} (h : Gre es left P) : ∀ z ∈ left, ∀ y ∈ left, Rch es [z] y → pos P y ≤ pos P z := by
  induction h with
  | nil => intro z hz; simp at hz
  | @step left left' p s R _ _ h3 _ _ h6 _ h8 _ ih =>
    intro z hz y hy hr
    rw [pos_cons, pos_cons]
    by_cases hq : inB p y = true
    · rw [if_pos hq]; exact Nat.zero_le _
    · by_cases hp : inB p z = true
      · have hsz := (h6 z).1 (inB_iff.1 hp)
        rcases h3 y (hsz.1.trans' hr) with hm | hn
        · exact absurd (inB_iff.2 ((h6 y).2 hm)) hq
        · exact absurd hy hn
      · rw [if_neg hp, if_neg hq]
        have := ih z ((h8 z).2 ⟨hz, fun hm => hp (inB_iff.2 hm)⟩) y ((h8 y).2 ⟨hy, fun hm => hq (inB_iff.2 hm)⟩) hr
        omega
section
variable {ns : List ByteArray} {es : List Edge} {P : List (List ByteArray)}
def Bar (es : List Edge) (P : List (List ByteArray)) (j : Nat) : Prop := (el es j).2.2 = true ∧ pos P (el es j).1 = pos P (el es j).2.1
theorem bar_iff (h : Gre es ns P) (hends : ∀ k, k < es.length → (el es k).1 ∈ ns ∧ (el es k).2.1 ∈ ns) : (∃ j, j < es.length ∧ Bar es P j) ↔ NegLoop es := by
  constructor
  · rintro ⟨j, hj, hn, he⟩
    exact ⟨_, el_memE hj, hn, ((h.pos_eq _ (hends j hj).1 _ (hends j hj).2).1 he).2⟩
  · rintro ⟨e, he, hn, hb⟩
    obtain ⟨j, hj, rfl⟩ := List.getElem_of_mem he
    rw [← el_eq hj] at hn hb
    exact ⟨j, hj, hn, (h.pos_eq _ (hends j hj).1 _ (hends j hj).2).2 ⟨Rch.one (el_memE hj), hb⟩⟩
theorem cyc_neg (hx : SX ns) (hends : ∀ k, k < es.length → (el es k).1 ∈ ns ∧ (el es k).2.1 ∈ ns) {row : List Nat} {ok : Bool} (h : IsCyc ns es row ok) : ok = true ↔ NegLoop es := by
  have key : ∀ k, k < es.length → ((∃ d, BackD ns es k d) ↔ Rch es [(el es k).2.1] (el es k).1) := fun k hk => by
    have h1 := hends k hk
    constructor
    · rintro ⟨d, hd, _⟩
      have := (RR_Rch hx hends (ixS_lt h1.2) (WI_RR hd)).1
      unfold tgt tF at this
      rwa [ixS_el h1.1, ixS_el h1.2] at this
    · intro hr
      have hrr := (Rch_RR hx hends h1.2 hr).1
      obtain ⟨j, hj⟩ := RR_WI hrr
      clear hr hrr
      have : ∀ n j, j ≤ n → WI (outN ns es) j (tgt ns es k) (tF ns es k) → ∃ d, BackD ns es k d := by
        intro n
        induction n with
        | zero => intro j hj0 hw; exact ⟨j, hw, fun _ _ => by omega⟩
        | succ n ih =>
          intro j hjn hw
          by_cases hm : ∃ i, i < j ∧ WI (outN ns es) i (tgt ns es k) (tF ns es k)
          · obtain ⟨i, hi, hwi⟩ := hm
            exact ih i (by omega) hwi
          · exact ⟨j, hw, fun i hwi => Nat.le_of_not_lt fun hi => hm ⟨i, hi, hwi⟩⟩
      exact this j j (Nat.le_refl _) hj
  rcases h with ⟨_, rfl, hno⟩ | ⟨b, d, l, _, rfl, hb, _⟩
  · refine ⟨fun h => (by cases h), fun ⟨e, he, hn, hr⟩ => ?_⟩
    obtain ⟨k, hk, rfl⟩ := List.getElem_of_mem he
    rw [← el_eq hk] at hn hr
    obtain ⟨d, hd⟩ := (key k hk).2 hr
    exact absurd hd (hno k hk hn d)
  · exact ⟨fun _ => ⟨_, el_memE hb.lt, hb.neg, (key b hb.lt).1 ⟨d, hb.dst⟩⟩, fun _ => rfl⟩
/-- a round trip through unlike nodes of one part -/
structure TripOK (es : List Edge) (P : List (List ByteArray)) (row : List Nat) : Prop where
  ne : 0 < row.length
  lt : ∀ i, i < row.length → el row i < es.length
  nxt : ∀ i, i < row.length → (el es (el row i)).2.1 = (el es (el row ((i + 1) % row.length))).1
  one : ∀ i, i < row.length → pos P (el es (el row i)).1 = pos P (el es (el row 0)).1
  dif : ∀ k i, k < i → i < row.length → (el es (el row k)).1 ≠ (el es (el row i)).1
  neg : (el es (el row 0)).2.2 = true
theorem Pth.facts {F : List Int} {u : Nat} {l : List Nat} (h : Pth (tF ns es) (tgt ns es) es.length F u l) : el F u = (l.length : Int) ∧ (∀ i, i < l.length → el l i < es.length ∧ el F (tF ns es (el l i)) = el F u - (i : Int) ∧ RR (outN ns es) u (tF ns es (el l i))) ∧ (0 < l.length → tF ns es (el l 0) = u) ∧
    (∀ i, i + 1 < l.length → tgt ns es (el l i) = tF ns es (el l (i + 1))) ∧ (0 < l.length → el F (tgt ns es (el l (l.length - 1))) = 0) := by
  induction h with
  | nil h0 => exact ⟨by simpa using h0, fun i hi => absurd hi (by simp), fun h => absurd h (by simp), fun i hi => absurd hi (by simp), fun h => absurd h (by simp)⟩
  | @cons u k l h0 hk hf hd _ _ ih =>
    obtain ⟨i1, i2, i3, i4, i5⟩ := ih
    have hs : ∀ i, el (k :: l) (i + 1) = el l i := fun i => rfl
    have hz : el (k :: l) 0 = k := rfl
    have hst : RR (outN ns es) u (tgt ns es k) := .step (.refl _) (by rw [← hf]; exact tgt_mem hk)
    have hlift : ∀ {v : Nat}, RR (outN ns es) (tgt ns es k) v → RR (outN ns es) u v := fun hr => hst.trans hr
    refine ⟨by simp only [List.length_cons]; omega, fun i hi => ?_, fun _ => by rw [hz]; exact hf, fun i hi => ?_, fun _ => ?_⟩
    · cases i with
      | zero => rw [hz, hf]; exact ⟨hk, by omega, .refl _⟩
      | succ i =>
        rw [hs]
        obtain ⟨q1, q2, q3⟩ := i2 i (by simpa using hi)
        exact ⟨q1, by omega, hlift q3⟩
    · cases i with
      | zero => rw [hz, hs]; exact (i3 (by simpa using hi)).symm
      | succ i => rw [hs, hs]; exact i4 i (by simpa using hi)
    · cases l with
      | nil => show el F (tgt ns es k) = 0; rw [i1]; rfl
      | cons k2 l2 =>
        have := i5 (by simp)
        exact this
theorem trip_ok (hx : SX ns) (hends : ∀ k, k < es.length → (el es k).1 ∈ ns ∧ (el es k).2.1 ∈ ns) {ns2 : List ByteArray} (hends2 : ∀ k, k < es.length → (el es k).1 ∈ ns2 ∧ (el es k).2.1 ∈ ns2) (hG : Gre es ns2 P) {b d : Nat} {l : List Nat} (hb : BestU ns es es.length b d) (ht : Trip ns es b l) : TripOK es P (b :: l) := by
  obtain ⟨F, hD, hp⟩ := ht
  have hbl := hb.lt
  obtain ⟨p1, p2, p3, p4, p5⟩ := hp.facts
  have hs : ∀ i, el (b :: l) (i + 1) = el l i := fun i => rfl
  have hz : el (b :: l) 0 = b := rfl
  have hbn := hends b hbl
  have hlt : ∀ i, i < (b :: l).length → el (b :: l) i < es.length := fun i hi => by
    cases i with
    | zero => exact hbl
    | succ i => rw [hs]; exact (p2 i (by simpa using hi)).1
  have ix : ∀ {x y : ByteArray}, x ∈ ns → y ∈ ns → ixS ns x = ixS ns y → x = y := fun hx1 hy1 e => by rw [← ixS_el hx1, e, ixS_el hy1]
  have hF0 : el F (tF ns es b) = 0 := hD.self (ixS_lt hbn.1)
  have hnode : ∀ i, i < (b :: l).length → el F (tF ns es (el (b :: l) i)) = if i = 0 then 0 else ((b :: l).length : Int) - (i : Int) := fun i hi => by
    cases i with
    | zero => rw [hz, hF0]; rfl
    | succ i =>
      rw [hs, (p2 i (by simpa using hi)).2.1, p1]
      simp only [List.length_cons, Nat.succ_ne_zero, if_false]; omega
  have hmut : ∀ i, i < (b :: l).length → Mut es (el es (el (b :: l) i)).1 (el es (el (b :: l) 0)).1 := fun i hi => by
    have hk := hlt i hi
    have hkn := hends _ hk
    cases i with
    | zero => exact ⟨Rch.refl' _ _, Rch.refl' _ _⟩
    | succ i =>
      rw [hs] at hk hkn ⊢
      rw [hz]
      have hil : i < l.length := by simpa using hi
      obtain ⟨q1, q2, q3⟩ := p2 i hil
      constructor
      · rcases hD.val _ (ixS_lt hkn.1) with ⟨g1, _⟩ | ⟨dd, _, g2, _⟩
        · unfold tF at q2; omega
        · have := (RR_Rch hx hends (ixS_lt hkn.1) (WI_RR g2)).1
          unfold tF at this
          rwa [ixS_el hkn.1, ixS_el hbn.1] at this
      · have r1 : RR (outN ns es) (tF ns es b) (tF ns es (el l i)) := RR.trans (.step (.refl _) (tgt_mem hbl)) q3
        have := (RR_Rch hx hends (ixS_lt hbn.1) r1).1
        unfold tF at this
        rwa [ixS_el hbn.1, ixS_el hkn.1] at this
  refine ⟨by simp, hlt, fun i hi => ?_, fun i hi => ?_, fun k i hki hi he => ?_, hb.neg⟩
  · have hk := hlt i hi
    have hn : (i + 1) % (b :: l).length < (b :: l).length := Nat.mod_lt _ (by simp)
    have hk2 := hlt _ hn
    refine ix (hends _ hk).2 (hends _ hk2).1 ?_
    show tgt ns es (el (b :: l) i) = tF ns es (el (b :: l) ((i + 1) % (b :: l).length))
    rcases Nat.lt_or_ge (i + 1) (b :: l).length with q | q
    · rw [Nat.mod_eq_of_lt q, hs]
      cases i with
      | zero => rw [hz]; exact (p3 (by simpa using q)).symm
      | succ i => rw [hs]; exact p4 i (by simpa using q)
    · have e : i + 1 = (b :: l).length := by omega
      rw [e, Nat.mod_self, hz]
      cases l with
      | nil =>
        have hi0 : i = 0 := by simp at hi; omega
        subst hi0
        exact hD.zero (ixS_lt hbn.2) (by show el F (tgt ns es b) = 0; rw [p1]; rfl)
      | cons k2 l2 =>
        have hi1 : i = (k2 :: l2).length - 1 + 1 := by simp at e ⊢; omega
        rw [hi1, hs]
        refine hD.zero ?_ (p5 (by simp))
        exact ixS_lt (hends _ (p2 _ (by simp)).1).2
  · have hk := hlt i hi
    exact (hG.pos_eq _ (hends2 _ hk).1 _ (hends2 _ (hlt 0 (by simp))).1).2 (hmut i hi)
  · have h1 := hnode k (by omega)
    have h2 := hnode i hi
    have e : tF ns es (el (b :: l) k) = tF ns es (el (b :: l) i) := by unfold tF; rw [he]
    rw [e, h2] at h1
    rw [if_neg (by omega)] at h1
    by_cases hk0 : k = 0
    · rw [if_pos hk0] at h1; omega
    · rw [if_neg hk0] at h1; omega
end
end Go.Proofs.Ytknfjgbipfpnjaa
