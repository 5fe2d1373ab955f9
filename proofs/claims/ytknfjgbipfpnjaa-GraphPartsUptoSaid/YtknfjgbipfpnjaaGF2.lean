/- The shortest round trip: what the search keeps. Plain. -/
import Derived.Test.YtknfjgbipfpnjaaG12
namespace Go.Proofs.Ytknfjgbipfpnjaa
open Go.RowKit Go.Eng Go.OrdPure Go.Knot
def CI (ns : List ByteArray) (es : List Edge) (i : Nat) (row : List Nat) (least : Int) : Prop :=
  (least = -1 ∧ row = [] ∧ NoBest ns es i) ∨ ∃ (b d : Nat) (l : List Nat), least = (d : Int) ∧ row = b :: l ∧ BestU ns es i b d ∧ Trip ns es b l
section
variable {ns : List ByteArray} {es : List Edge} {i : Nat} {row : List Nat} {least : Int}
theorem CI.start (ns : List ByteArray) (es : List Edge) : CI ns es 0 [] (-1) := .inl ⟨rfl, rfl, fun k hk => absurd hk (by omega)⟩
theorem CI.skip (h : CI ns es i row least) (hno : (el es i).2.2 = true → ∀ d, ¬ BackD ns es i d) : CI ns es (i + 1) row least := by
  rcases h with ⟨h1, h2, h3⟩ | ⟨b, d, l, h1, h2, h3, h4⟩
  · refine .inl ⟨h1, h2, fun k hk hn d' => ?_⟩
    by_cases e : k = i
    · subst e; exact hno hn d'
    · exact h3 k (by omega) hn d'
  · refine .inr ⟨b, d, l, h1, h2, ⟨by have := h3.lt; omega, h3.neg, h3.dst, fun k hk hn d' hb => ?_⟩, h4⟩
    by_cases e : k = i
    · subst e; exact absurd hb (hno hn d')
    · exact h3.min k (by omega) hn d' hb
theorem CI.worse (h : CI ns es i row least) (h0 : 0 ≤ least) {d0 : Nat} (hd : BackD ns es i d0) (hl : least ≤ d0) : CI ns es (i + 1) row least := by
  rcases h with ⟨h1, h2, h3⟩ | ⟨b, d, l, h1, h2, h3, h4⟩
  · omega
  · refine .inr ⟨b, d, l, h1, h2, ⟨by have := h3.lt; omega, h3.neg, h3.dst, fun k hk hn d' hb => ?_⟩, h4⟩
    by_cases e : k = i
    · subst e
      rw [hb.uniq hd]
      exact ⟨by omega, fun hkb => by have := h3.lt; omega⟩
    · exact h3.min k (by omega) hn d' hb
theorem CI.better (h : CI ns es i row least) (hn : (el es i).2.2 = true) {d0 : Nat} (hd : BackD ns es i d0) (hl : ¬ 0 ≤ least ∨ ¬ least ≤ d0) {l : List Nat} (ht : Trip ns es i l) : CI ns es (i + 1) (i :: l) d0 := by
  refine .inr ⟨i, d0, l, rfl, rfl, ⟨by omega, hn, hd, fun k hk hkn d' hb => ?_⟩, ht⟩
  by_cases e : k = i
  · subst e
    rw [hb.uniq hd]; exact ⟨Nat.le_refl _, fun h => absurd h (by omega)⟩
  · rcases h with ⟨_, _, h3⟩ | ⟨b, d, _, h1, _, h3, _⟩
    · exact absurd hb (h3 k (by omega) hkn d')
    · have := (h3.min k (by omega) hkn d' hb).1
      have hlt := h3.lt
      rcases hl with hl | hl
      · omega
      · exact ⟨by omega, fun _ => by omega⟩
theorem CI.done (h : CI ns es es.length row least) : IsCyc ns es row (decide (0 ≤ least)) := by
  rcases h with ⟨h1, h2, h3⟩ | ⟨b, d, l, h1, h2, h3, h4⟩
  · exact .inl ⟨h2, by rw [h1]; rfl, h3⟩
  · exact .inr ⟨b, d, l, h2, by rw [h1]; simp, h3, h4⟩
end
section
variable {ns : List ByteArray} {es : List Edge} {F : List Int} {t : Nat}
theorem Dst.zero (h : Dst (outN ns es) ns.length t F) {u : Nat} (hu : u < ns.length) (h0 : el F u = 0) : u = t := by
  rcases h.val u hu with ⟨h1, _⟩ | ⟨d, h1, h2, _⟩
  · omega
  · have : d = 0 := by omega
    subst this; cases h2; rfl
theorem Dst.self (h : Dst (outN ns es) ns.length t F) (ht : t < ns.length) : el F t = 0 := by
  rcases h.val t ht with ⟨_, h2⟩ | ⟨d, h1, _, h3⟩
  · exact absurd (.zero _) (h2 0)
  · have := h3 0 (.zero _); omega
theorem Dst.nearer (h : Dst (outN ns es) ns.length t F) (hends : ∀ k, k < es.length → (el es k).1 ∈ ns ∧ (el es k).2.1 ∈ ns) {u : Nat} (hu : u < ns.length) (h0 : 0 < el F u) : ∃ k, k < es.length ∧ tF ns es k = u ∧ el F (tgt ns es k) = el F u - 1 := by
  rcases h.val u hu with ⟨h1, _⟩ | ⟨d, h1, h2, h3⟩
  · omega
  · cases h2 with
    | zero => omega
    | @succ d' _ c _ hc hw =>
      obtain ⟨k, hk, hf, rfl⟩ := outN_edge u c hu hc
      refine ⟨k, hk, hf, ?_⟩
      have hcn : tgt ns es k < ns.length := ixS_lt (hends k hk).2
      rcases h.val _ hcn with ⟨_, g2⟩ | ⟨e, g1, g2, g3⟩
      · exact absurd hw (g2 _)
      · have q1 := g3 _ hw
        have q2 := h3 _ (.succ hc g2)
        omega
theorem rowS_sorted (ns : List ByteArray) (es : List Edge) (a : Nat) : (rowS ns es a).Pairwise (· < ·) := by
  unfold rowS rowU
  exact (List.pairwise_lt_range (n := es.length)).filter _
theorem rowS_before {a j k : Nat} (hj : j < (rowS ns es a).length) (hk : k < el (rowS ns es a) j) (hf : tF ns es k = a) : ∃ x, x < j ∧ el (rowS ns es a) x = k := by
  have hjl := (row_lt hj).1
  have hm : k ∈ rowS ns es a := mem_rowU.2 ⟨by omega, hf⟩
  obtain ⟨x, hx, rfl⟩ := List.getElem_of_mem hm
  refine ⟨x, ?_, el_eq hx⟩
  rcases Nat.lt_trichotomy x j with q | q | q
  · exact q
  · subst q; rw [el_eq hx] at hk; omega
  · have := List.pairwise_iff_getElem.1 (rowS_sorted ns es a) j x hj hx q
    rw [el_eq hj] at hk; omega
theorem row_has {a k : Nat} (hk : k < es.length) (hf : tF ns es k = a) : ∃ x, x < (rowS ns es a).length ∧ el (rowS ns es a) x = k := by
  obtain ⟨x, hx, e⟩ := List.getElem_of_mem (show k ∈ rowS ns es a from mem_rowU.2 ⟨hk, hf⟩)
  exact ⟨x, hx, by rw [el_eq hx]; exact e⟩
/-- the way so far -/
def PI (ns : List ByteArray) (es : List Edge) (F : List Int) (s at_ : Nat) (pre : List Nat) : Prop := at_ < ns.length ∧ 0 ≤ el F at_ ∧ ∀ l, Pth (tF ns es) (tgt ns es) es.length F at_ l → Pth (tF ns es) (tgt ns es) es.length F s (pre ++ l)
theorem PI.start {s : Nat} (hs : s < ns.length) (h0 : 0 ≤ el F s) : PI ns es F s s [] := ⟨hs, h0, fun _ h => h⟩
theorem PI.step {s u j : Nat} {pre : List Nat} (h : PI ns es F s u pre) (hends : ∀ k, k < es.length → (el es k).1 ∈ ns ∧ (el es k).2.1 ∈ ns) (h0 : 0 < el F u) (hj : j < (rowS ns es u).length) (hf : el F (tgt ns es (el (rowS ns es u) j)) = el F u - 1)
    (hb : ∀ x, x < j → el F (tgt ns es (el (rowS ns es u) x)) ≠ el F u - 1) : PI ns es F s (tgt ns es (el (rowS ns es u) j)) (pre ++ [el (rowS ns es u) j]) := by
  obtain ⟨h1, h2⟩ := row_lt hj
  refine ⟨ixS_lt (hends _ h1).2, by omega, fun l hl => ?_⟩
  rw [List.append_assoc]
  refine h.2.2 _ (.cons h0 h1 h2 hf (fun k hk hfk => ?_) hl)
  obtain ⟨x, hx, rfl⟩ := rowS_before hj hk hfk
  exact hb x hx
theorem PI.done {s : Nat} {pre : List Nat} (h : PI ns es F s t pre) (hD : Dst (outN ns es) ns.length t F) (ht : t < ns.length) : Pth (tF ns es) (tgt ns es) es.length F s pre := by
  have := h.2.2 [] (.nil (hD.self ht))
  rwa [List.append_nil] at this
theorem Dst.found (h : Dst (outN ns es) ns.length t F) (hends : ∀ k, k < es.length → (el es k).1 ∈ ns ∧ (el es k).2.1 ∈ ns) {u j : Nat} (hu : u < ns.length) (h0 : 0 < el F u) (hb : ∀ x, x < j → el F (tgt ns es (el (rowS ns es u) x)) ≠ el F u - 1) : j < (rowS ns es u).length := by
  obtain ⟨k, hk, hf, he⟩ := h.nearer hends hu h0
  obtain ⟨x, hx, rfl⟩ := row_has hk hf
  rcases Nat.lt_or_ge x j with q | q
  · exact absurd he (hb x q)
  · omega
theorem Kn.backD {Pn : List Nat} {m i : Nat} (hK : Kn ns es Pn m) (hi : i < es.length) {F : List Int} (hD : Dst (outN ns es) ns.length (tF ns es i) F) (he : pF ns es Pn i = pT ns es Pn i) : ∃ d : Nat, el F (tgt ns es i) = d ∧ BackD ns es i d := by
  have h1 := hK.k.scc _ _ (ixS_lt (hK.ends i hi).1) (ixS_lt (hK.ends i hi).2)
  have hw := (h1.1 (by unfold pF pT at he; omega)).2
  obtain ⟨k, hk⟩ := RR_WI hw
  rcases hD.val (tgt ns es i) (ixS_lt (hK.ends i hi).2) with ⟨_, g2⟩ | ⟨d, g1, g2, g3⟩
  · exact absurd hk (g2 k)
  · exact ⟨d, g1, g2, g3⟩
theorem Kn.noback {Pn : List Nat} {m i : Nat} (hK : Kn ns es Pn m) (hi : i < es.length) (he : ¬ pF ns es Pn i = pT ns es Pn i) (d : Nat) : ¬ BackD ns es i d := by
  intro hb
  have h1 := hK.k.scc _ _ (ixS_lt (hK.ends i hi).1) (ixS_lt (hK.ends i hi).2)
  refine he ?_
  have h2 : RR (outN ns es) (tF ns es i) (tgt ns es i) := .step (.refl _) (tgt_mem hi)
  have := h1.2 ⟨h2, WI_RR hb.1⟩
  unfold pF pT; omega
end
end Go.Proofs.Ytknfjgbipfpnjaa
