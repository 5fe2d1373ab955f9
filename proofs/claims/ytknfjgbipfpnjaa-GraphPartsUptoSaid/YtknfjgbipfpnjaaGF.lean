/- Shortest ways, by layers; the shortest round trip. Plain. -/
import Derived.Test.YtknfjgbipfpnjaaG11
namespace Go.Proofs.Ytknfjgbipfpnjaa
open Go.RowKit Go.Eng Go.OrdPure Go.Knot
inductive WI (out : Nat → List Nat) : Nat → Nat → Nat → Prop
  | zero (u : Nat) : WI out 0 u u
  | succ {k u c t : Nat} : c ∈ out u → WI out k c t → WI out (k + 1) u t
structure Dst (out : Nat → List Nat) (n t : Nat) (F : List Int) : Prop where
  len : F.length = n
  val : ∀ u, u < n → (el F u = -1 ∧ ∀ k, ¬ WI out k u t) ∨ ∃ d : Nat, el F u = d ∧ WI out d u t ∧ ∀ k, WI out k u t → d ≤ k
theorem Dst.uniq {out : Nat → List Nat} {n t : Nat} {F G : List Int} (h : Dst out n t F) (k : Dst out n t G) : F = G := by
  refine list_ext_el (by rw [h.len, k.len]) fun u hu => ?_
  rw [h.len] at hu
  rcases h.val u hu with ⟨h1, h2⟩ | ⟨d, h1, h2, h3⟩ <;> rcases k.val u hu with ⟨k1, k2⟩ | ⟨d', k1, k2, k3⟩
  · rw [h1, k1]
  · exact absurd k2 (h2 _)
  · exact absurd h2 (k2 _)
  · have := h3 _ k2; have := k3 _ h2; omega
/-- the search by layers: of the list's first i nodes all that lead to them are in the list; of node c the first j edges -/
structure BI (out : Nat → List Nat) (n t : Nat) (fr to : Nat → Nat) (E : Nat) (i : Nat) (L : List Nat) (F : List Int) (dn : Nat → Prop) : Prop where
  len : F.length = n
  nd : L.Nodup
  lt : ∀ x ∈ L, x < n
  mem : ∀ u, u < n → (0 ≤ el F u ↔ u ∈ L)
  neg : ∀ u, u < n → -1 ≤ el F u
  snd : ∀ u ∈ L, ∃ d : Nat, el F u = d ∧ WI out d u t
  mono : ∀ a b, a ≤ b → b < L.length → el F (el L a) ≤ el F (el L b)
  step : ∀ b, i ≤ L.length → b < L.length → i < L.length → el F (el L b) ≤ el F (el L i) + 1
  bnd : ∀ u ∈ L, el F u ≤ L.length
  frm : t ∈ L ∧ el F t = 0
  prc : ∀ k, k < E → ((∃ j, j < i ∧ el L j = to k) ∨ dn k) → fr k ∈ L ∧ el F (fr k) ≤ el F (to k) + 1
section
variable {out : Nat → List Nat} {n t : Nat} {fr to : Nat → Nat} {E i : Nat} {L : List Nat} {F : List Int} {dn : Nat → Prop}
theorem BI.llen (h : BI out n t fr to E i L F dn) : L.length ≤ n := by
  have := nodup_le (L := List.range n) h.nd fun s hs => List.mem_range.2 (h.lt s hs)
  simpa using this
theorem BI.start (ht : t < n) {F0 : List Int} (hl : F0.length = n) (h0 : ∀ u, u < n → el F0 u = -1) : BI out n t fr to E 0 [t] (F0.set t 0) (fun _ => False) := by
  have hF : el (F0.set t 0) t = 0 := el_set_same (by omega) _
  have hel : ∀ b, b < [t].length → el [t] b = t := fun b hb => by have hb0 : b = 0 := (by simpa using hb); subst hb0; rfl
  refine ⟨by simp [hl], by simp, by simp [ht], fun u hu => ?_, fun u hu => ?_, fun u hu => ?_, fun a b hab hb => ?_, fun b _ hb _ => ?_, fun u hu => ?_, ⟨by simp, hF⟩, fun k _ hc => ?_⟩
  · by_cases e : t = u
    · subst e; rw [hF]; simp
    · rw [el_set_ne e, h0 u hu]; simp [Ne.symm e]
  · by_cases e : t = u
    · subst e; rw [hF]; omega
    · rw [el_set_ne e, h0 u hu]; omega
  · rw [List.mem_singleton] at hu; subst hu; exact ⟨0, by rw [hF]; rfl, .zero _⟩
  · rw [hel a (by omega), hel b hb]; exact Int.le_refl _
  · rw [hel b hb, hel 0 (by simp)]; omega
  · rw [List.mem_singleton] at hu; subst hu; rw [hF]; simp
  · rcases hc with ⟨j, hj, _⟩ | hc
    · omega
    · exact hc.elim
/-- an edge of the node that is looked at: its beginning is in the list already -/
theorem BI.old (h : BI out n t fr to E i L F dn) (hi : i < L.length) {k : Nat} (hk : k < E) (hto : to k = el L i) (hf : fr k < n) (ho : ¬ el F (fr k) < 0) : BI out n t fr to E i L F (fun x => x = k ∨ dn x) := by
  refine ⟨h.len, h.nd, h.lt, h.mem, h.neg, h.snd, h.mono, h.step, h.bnd, h.frm, fun k' hk' hc => ?_⟩
  by_cases e : k' = k
  · subst e
    have hm := (h.mem _ hf).1 (by omega)
    refine ⟨hm, ?_⟩
    obtain ⟨b, hb, hbe⟩ := List.getElem_of_mem hm
    have := h.step b (by omega) hb hi
    rw [el_eq hb, hbe] at this
    rw [hto]; exact this
  · refine h.prc k' hk' ?_
    rcases hc with hc | hc | hc
    · exact .inl hc
    · exact absurd hc e
    · exact .inr hc
theorem BI.new (h : BI out n t fr to E i L F dn) (hi : i < L.length) {k : Nat} (hk : k < E) (hto : to k = el L i) (hf : fr k < n) (ho : el F (fr k) < 0) (hout : to k ∈ out (fr k)) (htol : ∀ k, k < E → to k < n) :
    BI out n t fr to E i (L ++ [fr k]) (F.set (fr k) (el F (el L i) + 1)) (fun x => x = k ∨ dn x) := by
  have hno : fr k ∉ L := fun hm => by have := (h.mem _ hf).2 hm; omega
  have hfl : fr k < F.length := by rw [h.len]; exact hf
  have hci : el L i ∈ L := by rw [el_eq hi]; exact List.getElem_mem _
  have hold : ∀ u, u ∈ L → el (F.set (fr k) (el F (el L i) + 1)) u = el F u := fun u hu => el_set_ne (fun e => hno (by rw [e]; exact hu)) _
  have hnew : el (F.set (fr k) (el F (el L i) + 1)) (fr k) = el F (el L i) + 1 := el_set_same hfl _
  have hmemL : ∀ b, b < L.length → el L b ∈ L := fun b hb => by rw [el_eq hb]; exact List.getElem_mem _
  have hcv := (h.mem _ (h.lt _ hci)).2 hci
  have hapl : ∀ b, b < L.length → el (L ++ [fr k]) b = el L b := fun b hb => el_append_left hb
  have hapr : el (L ++ [fr k]) L.length = fr k := by have := el_append_right (xs := L) (ys := [fr k]) (i := 0); rw [Nat.add_zero] at this; rw [this]; rfl
  refine ⟨by rw [List.length_set]; exact h.len, ?_, ?_, ?_, ?_, ?_, ?_, ?_, ?_, ?_, ?_⟩
  · rw [List.nodup_append]
    exact ⟨h.nd, by simp, fun a ha b hb => by rw [List.mem_singleton] at hb; subst hb; rintro rfl; exact hno ha⟩
  · intro x hx
    rcases List.mem_append.1 hx with hx | hx
    · exact h.lt x hx
    · rw [List.mem_singleton] at hx; subst hx; exact hf
  · intro u hu
    rw [List.mem_append, List.mem_singleton]
    by_cases e : fr k = u
    · subst e; rw [hnew]; exact ⟨fun _ => .inr rfl, fun _ => by omega⟩
    · rw [el_set_ne e, h.mem u hu]; exact ⟨.inl, fun h => h.resolve_right (Ne.symm e)⟩
  · intro u hu
    by_cases e : fr k = u
    · subst e; rw [hnew]; omega
    · rw [el_set_ne e]; exact h.neg u hu
  · intro u hu
    rcases List.mem_append.1 hu with hu | hu
    · rw [hold u hu]; exact h.snd u hu
    · rw [List.mem_singleton] at hu; subst hu
      obtain ⟨d, h1, h2⟩ := h.snd _ hci
      rw [hnew, h1]
      exact ⟨d + 1, by omega, .succ hout (by rw [hto]; exact h2)⟩
  · intro a b hab hb
    rw [List.length_append] at hb; simp at hb
    by_cases e : b = L.length
    · subst e
      rw [hapr, hnew]
      by_cases e2 : a = L.length
      · subst e2; rw [hapr, hnew]; exact Int.le_refl _
      · rw [hapl a (by omega), hold _ (hmemL a (by omega))]
        exact h.step a (by omega) (by omega) hi
    · rw [hapl a (by omega), hapl b (by omega), hold _ (hmemL a (by omega)), hold _ (hmemL b (by omega))]
      exact h.mono a b hab (by omega)
  · intro b _ hb _
    rw [hapl i hi, hold _ hci]
    rw [List.length_append] at hb; simp at hb
    by_cases e : b = L.length
    · subst e; rw [hapr, hnew]; exact Int.le_refl _
    · rw [hapl b (by omega), hold _ (hmemL b (by omega))]; exact h.step b (by omega) (by omega) hi
  · intro u hu
    rw [List.length_append]; simp only [List.length_singleton]
    rcases List.mem_append.1 hu with hu | hu
    · rw [hold u hu]; have := h.bnd u hu; omega
    · rw [List.mem_singleton] at hu; subst hu; rw [hnew]; have := h.bnd _ hci; omega
  · exact ⟨List.mem_append_left _ h.frm.1, by rw [hold _ h.frm.1]; exact h.frm.2⟩
  · intro k' hk' hc
    by_cases e : k' = k
    · subst e
      refine ⟨List.mem_append_right _ (by simp), ?_⟩
      rw [hnew, hto, hold _ hci]; exact Int.le_refl _
    · have hc' : (∃ j, j < i ∧ el L j = to k') ∨ dn k' := by
        rcases hc with ⟨j, hj, he⟩ | hc | hc
        · exact .inl ⟨j, hj, by rw [hapl j (by omega)] at he; exact he⟩
        · exact absurd hc e
        · exact .inr hc
      obtain ⟨h1, h2⟩ := h.prc k' hk' hc'
      refine ⟨List.mem_append_left _ h1, ?_⟩
      rw [hold _ h1]
      by_cases e3 : fr k = to k'
      · rw [← e3, hnew]
        rw [← e3] at h2
        have := (h.mem _ (h.lt _ h1)).2 h1
        omega
      · rw [el_set_ne e3]; exact h2
theorem BI.next (h : BI out n t fr to E i L F dn) (hi : i < L.length) (hd : ∀ k, k < E → to k = el L i → dn k) : BI out n t fr to E (i + 1) L F (fun _ => False) := by
  refine ⟨h.len, h.nd, h.lt, h.mem, h.neg, h.snd, h.mono, fun b _ hb hi2 => ?_, h.bnd, h.frm, fun k hk hc => h.prc k hk ?_⟩
  · have h1 := h.step b (by omega) hb hi
    have h2 := h.mono i (i + 1) (by omega) hi2
    omega
  · rcases hc with ⟨j, hj, he⟩ | hc
    · by_cases e : j = i
      · subst e; exact .inr (hd k hk he.symm)
      · exact .inl ⟨j, by omega, he⟩
    · exact hc.elim
theorem BI.done (h : BI out n t fr to E L.length L F dn) (hedge : ∀ u c, u < n → c ∈ out u → ∃ k, k < E ∧ fr k = u ∧ to k = c) (hout : ∀ u, u < n → ∀ c, c ∈ out u → c < n) : Dst out n t F := by
  have key : ∀ k u, u < n → WI out k u t → u ∈ L ∧ el F u ≤ k := by
    intro k
    induction k with
    | zero =>
      intro u hu hw
      cases hw
      exact ⟨h.frm.1, by rw [h.frm.2]; exact Int.le_refl _⟩
    | succ k ih =>
      intro u hu hw
      cases hw with
      | succ hc hw =>
        rename_i c
        obtain ⟨h1, h2⟩ := ih c (hout u hu c hc) hw
        obtain ⟨kk, hk, rfl, rfl⟩ := hedge u c hu hc
        obtain ⟨j, hj, he⟩ := List.getElem_of_mem h1
        obtain ⟨h3, h4⟩ := h.prc kk hk (.inl ⟨j, hj, by rw [el_eq hj]; exact he⟩)
        exact ⟨h3, by omega⟩
  refine ⟨h.len, fun u hu => ?_⟩
  by_cases hm : u ∈ L
  · obtain ⟨d, h1, h2⟩ := h.snd u hm
    refine .inr ⟨d, h1, h2, fun k hw => ?_⟩
    have := (key k u hu hw).2; omega
  · refine .inl ⟨?_, fun k hw => hm (key k u hu hw).1⟩
    have h1 := h.neg u hu
    have h2 := mt (h.mem u hu).1 hm
    omega
end
/-- the way from a node by the first edges that come nearer -/
inductive Pth (fr to : Nat → Nat) (E : Nat) (F : List Int) : Nat → List Nat → Prop
  | nil {u : Nat} : el F u = 0 → Pth fr to E F u []
  | cons {u k : Nat} {l : List Nat} : 0 < el F u → k < E → fr k = u → el F (to k) = el F u - 1 → (∀ j, j < k → fr j = u → el F (to j) ≠ el F u - 1) → Pth fr to E F (to k) l → Pth fr to E F u (k :: l)
theorem Pth.uniq {fr to : Nat → Nat} {E : Nat} {F : List Int} {u : Nat} {l l' : List Nat} (h : Pth fr to E F u l) (k : Pth fr to E F u l') : l = l' := by
  induction h generalizing l' with
  | nil h0 =>
    cases k with
    | nil => rfl
    | cons h1 => omega
  | @cons u k1 l h1 h2 h3 h4 h5 _ ih =>
    cases k with
    | nil h0 => omega
    | @cons _ k2 l2 g1 g2 g3 g4 g5 g6 =>
      have e : k1 = k2 := by
        rcases Nat.lt_trichotomy k1 k2 with q | q | q
        · exact absurd h4 (g5 k1 q h3)
        · exact q
        · exact absurd g4 (h5 k2 q g3)
      subst e
      rw [ih g6]
/-- the round trip: the best edge, how far its end is from its beginning -/
def tF (ns : List ByteArray) (es : List Edge) (k : Nat) : Nat := ixS ns (el es k).1
/-- of edge k: how many edges lead back -/
def BackD (ns : List ByteArray) (es : List Edge) (k d : Nat) : Prop := WI (outN ns es) d (tgt ns es k) (tF ns es k) ∧ ∀ j, WI (outN ns es) j (tgt ns es k) (tF ns es k) → d ≤ j
theorem BackD.uniq {ns : List ByteArray} {es : List Edge} {k d d' : Nat} (h : BackD ns es k d) (h' : BackD ns es k d') : d = d' := by have := h.2 _ h'.1; have := h'.2 _ h.1; omega
structure BestU (ns : List ByteArray) (es : List Edge) (i b d : Nat) : Prop where
  lt : b < i
  neg : (el es b).2.2 = true
  dst : BackD ns es b d
  min : ∀ k, k < i → (el es k).2.2 = true → ∀ d', BackD ns es k d' → d ≤ d' ∧ (k < b → d < d')
def NoBest (ns : List ByteArray) (es : List Edge) (i : Nat) : Prop := ∀ k, k < i → (el es k).2.2 = true → ∀ d', ¬ BackD ns es k d'
def Trip (ns : List ByteArray) (es : List Edge) (b : Nat) (l : List Nat) : Prop := ∃ F, Dst (outN ns es) ns.length (tF ns es b) F ∧ Pth (tF ns es) (tgt ns es) es.length F (tgt ns es b) l
theorem Trip.uniq {ns : List ByteArray} {es : List Edge} {b : Nat} {l l' : List Nat} (h : Trip ns es b l) (h' : Trip ns es b l') : l = l' := by
  obtain ⟨F, h1, h2⟩ := h
  obtain ⟨G, k1, k2⟩ := h'
  have := h1.uniq k1; subst this
  exact h2.uniq k2
/-- what Cycle answers -/
def IsCyc (ns : List ByteArray) (es : List Edge) (row : List Nat) (ok : Bool) : Prop := (row = [] ∧ ok = false ∧ NoBest ns es es.length) ∨ ∃ b d l, row = b :: l ∧ ok = true ∧ BestU ns es es.length b d ∧ Trip ns es b l
theorem BestU.uniq {ns : List ByteArray} {es : List Edge} {i b d b' d' : Nat} (h : BestU ns es i b d) (h' : BestU ns es i b' d') : b = b' ∧ d = d' := by
  have h1 := h.min b' h'.lt h'.neg d' h'.dst
  have h2 := h'.min b h.lt h.neg d h.dst
  have e : d = d' := by omega
  refine ⟨?_, e⟩
  rcases Nat.lt_trichotomy b b' with q | q | q
  · have := h2.2 q; omega
  · exact q
  · have := h1.2 q; omega
theorem IsCyc.uniq {ns : List ByteArray} {es : List Edge} {r r' : List Nat} {o o' : Bool} (h : IsCyc ns es r o) (h' : IsCyc ns es r' o') : r = r' ∧ o = o' := by
  rcases h with ⟨h1, h2, h3⟩ | ⟨b, d, l, h1, h2, h3, h4⟩ <;> rcases h' with ⟨k1, k2, k3⟩ | ⟨b', d', l', k1, k2, k3, k4⟩
  · rw [h1, h2, k1, k2]; exact ⟨rfl, rfl⟩
  · exact absurd k3.dst (h3 b' k3.lt k3.neg d')
  · exact absurd h3.dst (k3 b h3.lt h3.neg d)
  · obtain ⟨e, _⟩ := h3.uniq k3
    subst e
    rw [h1, h2, k1, k2, h4.uniq k4]; exact ⟨rfl, rfl⟩
theorem RR_WI {out : Nat → List Nat} {a b : Nat} (h : RR out a b) : ∃ k, WI out k a b := by
  have key : ∀ {a b c : Nat} {k : Nat}, WI out k a b → c ∈ out b → WI out (k + 1) a c := by
    intro a b c k hw hc
    induction hw with
    | zero u => exact .succ hc (.zero _)
    | succ h1 _ ih => exact .succ h1 (ih hc)
  induction h with
  | refl => exact ⟨0, .zero _⟩
  | step _ hc ih => obtain ⟨k, hk⟩ := ih; exact ⟨k + 1, key hk hc⟩
theorem WI_RR {out : Nat → List Nat} {k a b : Nat} (h : WI out k a b) : RR out a b := by
  induction h with
  | zero u => exact .refl u
  | succ hc _ ih => exact (RR.step (.refl _) hc).trans ih
end Go.Proofs.Ytknfjgbipfpnjaa
