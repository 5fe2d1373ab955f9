/- The document's levels, distances, round trip. Plain. -/
import Derived.Test.YtknfjgbipfpnjaaGRs
namespace Go.Proofs.Ytknfjgbipfpnjaa
open Go.RowKit Go.Eng Go.OrdPure Go.Knot
theorem pl_ix {xs : List ByteArray} {z : ByteArray} (h : z ∈ xs) : pl xs z = ((ixS xs z : Nat) : Int) := by
  have := ixS_lt h
  unfold pl; unfold ixS at *; rw [if_pos this]
-- levels, raised as long as one must be
def RuleK (ns : List ByteArray) (es : List Edge) (lv : List Nat) (k : Nat) : Prop := el lv (tgt ns es k) + ng (el es k) ≤ el lv (tF ns es k)
structure Rz (ns : List ByteArray) (es : List Edge) (lv : List Nat) : Prop where
  len : lv.length = ns.length
  bnd : ∀ u, u < ns.length → el lv u ≤ ns.length
  low : ∀ f, Rule es f → ∀ s ∈ ns, el lv (ixS ns s) ≤ f s
structure Ri (ns : List ByteArray) (es : List Edge) (lv0 lv : List Nat) (i : Nat) (rs : Bool) : Prop where
  z : Rz ns es lv
  grew : rs = true → lv0.sum < lv.sum
  same : rs = false → lv = lv0 ∧ ∀ k, k < i → RuleK ns es lv k
theorem sum_set : ∀ {xs : List Nat} {i v : Nat}, i < xs.length → (xs.set i v).sum + el xs i = xs.sum + v
  | [], i, v, h => absurd h (by simp)
  | x :: xs, 0, v, _ => by simp only [List.set_cons_zero, List.sum_cons]; show v + xs.sum + x = _; omega
  | x :: xs, i + 1, v, h => by
    have ih := sum_set (xs := xs) (i := i) (v := v) (by simpa using h)
    simp only [List.set_cons_succ, List.sum_cons]
    show x + _ + el xs i = _
    omega
theorem sum_le {b : Nat} : ∀ {xs : List Nat}, (∀ i, i < xs.length → el xs i ≤ b) → xs.sum ≤ xs.length * b
  | [], _ => by simp
  | x :: xs, h => by
    have h0 : x ≤ b := h 0 (by simp)
    have ih := sum_le (b := b) (xs := xs) fun i hi => h (i + 1) (by simpa using hi)
    simp only [List.sum_cons, List.length_cons, Nat.succ_mul]
    omega
section
variable {ns : List ByteArray} {es : List Edge} {lv0 lv : List Nat} {i m : Nat} {rs : Bool}
theorem Rz.start (ns : List ByteArray) (es : List Edge) : Rz ns es (List.replicate ns.length 0) := by
  have h0 : ∀ u, u < ns.length → el (List.replicate ns.length 0) u = 0 := fun u hu => by rw [el_eq (by simpa using hu)]; simp
  exact ⟨by simp, fun u hu => by rw [h0 u hu]; exact Nat.zero_le _, fun f _ s hs => by rw [h0 _ (ixS_lt hs)]; exact Nat.zero_le _⟩
theorem Ri.start (h : Rz ns es lv) : Ri ns es lv lv 0 false := ⟨h, fun h => (by cases h), fun _ => ⟨rfl, fun k hk => absurd hk (by omega)⟩⟩
theorem Rz.low_up (h : Rz ns es lv) (hends : ∀ k, k < es.length → (el es k).1 ∈ ns ∧ (el es k).2.1 ∈ ns) (hi : i < es.length) (hm : m = el lv (tgt ns es i) + ng (el es i)) : ∀ f, Rule es f → ∀ s ∈ ns, el (lv.set (tF ns es i) m) (ixS ns s) ≤ f s := by
  intro f hf s hs
  by_cases e : tF ns es i = ixS ns s
  · have es' : (el es i).1 = s := by rw [← ixS_el (hends i hi).1, ← ixS_el hs]; exact congrArg _ e
    rw [e, el_set_same (by rw [h.len]; exact ixS_lt hs), ← es', hm]
    have h1 := hf _ (el_memE hi)
    have h2 := h.low f hf _ (hends i hi).2
    unfold tgt; omega
  · rw [el_set_ne e]; exact h.low f hf s hs
theorem Ri.up (h : Ri ns es lv0 lv i rs) (hends : ∀ k, k < es.length → (el es k).1 ∈ ns ∧ (el es k).2.1 ∈ ns) (hi : i < es.length) (hm : m = el lv (tgt ns es i) + ng (el es i)) (hlt : el lv (tF ns es i) < m) (hb : m ≤ ns.length) : Ri ns es lv0 (lv.set (tF ns es i) m) (i + 1) true := by
  have hfl : tF ns es i < lv.length := by rw [h.z.len]; exact ixS_lt (hends i hi).1
  refine ⟨⟨by rw [List.length_set]; exact h.z.len, fun u hu => ?_, h.z.low_up hends hi hm⟩, fun _ => ?_, fun h => (by cases h)⟩
  · by_cases e : tF ns es i = u
    · subst e; rw [el_set_same hfl]; exact hb
    · rw [el_set_ne e]; exact h.z.bnd u hu
  · have h1 := sum_set (xs := lv) (i := tF ns es i) (v := m) hfl
    have h2 : lv0.sum ≤ lv.sum := by
      cases rs with
      | true => exact Nat.le_of_lt (h.grew rfl)
      | false => rw [(h.same rfl).1]; exact Nat.le_refl _
    omega
theorem Ri.no (h : Ri ns es lv0 lv i rs) (hm : m = el lv (tgt ns es i) + ng (el es i)) (hno : ¬ el lv (tF ns es i) < m) : Ri ns es lv0 lv (i + 1) rs := by
  refine ⟨h.z, h.grew, fun hr => ⟨(h.same hr).1, fun k hk => ?_⟩⟩
  by_cases e : k = i
  · subst e; unfold RuleK; omega
  · exact (h.same hr).2 k (by omega)
theorem Rz.over (h : Rz ns es lv) (hends : ∀ k, k < es.length → (el es k).1 ∈ ns ∧ (el es k).2.1 ∈ ns) (hEx : NegLoop es ∨ ∃ lev, IsLev ns es lev) (hi : i < es.length) (hm : m = el lv (tgt ns es i) + ng (el es i)) (hov : ns.length < m) : NegLoop es := by
  rcases hEx with h1 | ⟨lev, hl⟩
  · exact h1
  · have h2 := h.low_up hends hi hm lev hl.rule _ (hends i hi).1
    rw [show ixS ns (el es i).1 = tF ns es i from rfl, el_set_same (by rw [h.len]; exact ixS_lt (hends i hi).1)] at h2
    have h3 := hl.bnd (fun e he => by obtain ⟨k, hk, rfl⟩ := List.getElem_of_mem he; rw [← el_eq hk]; exact hends k hk) (hends i hi).1
    omega
theorem Rz.done (h : Rz ns es lv) (hr : ∀ k, k < es.length → RuleK ns es lv k) : IsLev ns es fun s => el lv (ixS ns s) := by
  refine ⟨fun e he => ?_, h.low⟩
  obtain ⟨k, hk, rfl⟩ := List.getElem_of_mem he
  rw [← el_eq hk]; exact hr k hk
def rzm (n : Nat) (rs : Bool) (lv : List Nat) : Nat := if rs = true then n * n + 1 - lv.sum else 0
theorem Rz.sum (h : Rz ns es lv) : lv.sum ≤ ns.length * ns.length := by
  have := sum_le (b := ns.length) (xs := lv) fun i hi => h.bnd i (by rw [← h.len]; exact hi)
  rwa [h.len] at this
theorem rzm_lt (h0 : Rz ns es lv0) (h : Ri ns es lv0 lv i rs) : rzm ns.length rs lv < rzm ns.length true lv0 := by
  have h1 := h0.sum
  have h2 := h.z.sum
  unfold rzm
  rw [if_pos rfl]
  cases rs with
  | true => rw [if_pos rfl]; have := h.grew rfl; omega
  | false => simp; omega
end
-- how far: by rounds
structure FI (out : Nat → List Nat) (N t : Nat) (fr to : Nat → Nat) (n i : Nat) (F : List Int) : Prop where
  len : F.length = N
  val : ∀ u, u < N → (el F u = -1 ∧ (∀ k, k ≤ n → ¬ WI out k u t) ∧ ∀ j, j < i → fr j = u → ¬ WI out n (to j) t) ∨ ∃ d : Nat, el F u = d ∧ d ≤ n + 1 ∧ WI out d u t ∧ ∀ k, WI out k u t → d ≤ k
section
variable {out : Nat → List Nat} {N t : Nat} {fr to : Nat → Nat} {E n i : Nat} {F : List Int}
theorem FI.start {F0 : List Int} (hl : F0.length = N) (h0 : ∀ u, u < N → el F0 u = -1) (ht : t < N) : FI out N t fr to 0 0 (F0.set t 0) := by
  refine ⟨by rw [List.length_set]; exact hl, fun u hu => ?_⟩
  by_cases e : t = u
  · subst e; exact .inr ⟨0, by rw [el_set_same (by omega)]; rfl, by omega, .zero _, fun _ _ => Nat.zero_le _⟩
  · refine .inl ⟨by rw [el_set_ne e]; exact h0 u hu, fun k hk hw => ?_, fun j hj => absurd hj (by omega)⟩
    obtain rfl : k = 0 := by omega
    cases hw; exact e rfl
theorem FI.set (h : FI out N t fr to n i F) (hto : to i ∈ out (fr i)) (hf : fr i < N) (ht : to i < N) (h1 : el F (to i) = (n : Int)) (h2 : el F (fr i) < 0) : FI out N t fr to n (i + 1) (F.set (fr i) ((n + 1 : Nat) : Int)) := by
  refine ⟨by rw [List.length_set]; exact h.len, fun u hu => ?_⟩
  have hw : WI out n (to i) t := by
    rcases h.val _ ht with ⟨q, _⟩ | ⟨d, q, _, q2, _⟩
    · omega
    · have : d = n := by omega
      rw [← this]; exact q2
  by_cases e : fr i = u
  · subst e
    refine .inr ⟨n + 1, by rw [el_set_same (by rw [h.len]; exact hf)], Nat.le_refl _, .succ hto hw, fun k hk => ?_⟩
    rcases h.val _ hu with ⟨_, q, _⟩ | ⟨d, q, _⟩
    · rcases Nat.lt_or_ge n k with g | g
      · omega
      · exact absurd hk (q k g)
    · omega
  · rw [el_set_ne e]
    rcases h.val u hu with ⟨q1, q2, q3⟩ | q
    · refine .inl ⟨q1, q2, fun j hj hfj => ?_⟩
      by_cases ej : j = i
      · subst ej; exact absurd hfj e
      · exact q3 j (by omega) hfj
    · exact .inr q
theorem FI.no (h : FI out N t fr to n i F) (hto : to i ∈ out (fr i)) (ht : to i < N) (hno : ¬ (el F (to i) = (n : Int) ∧ el F (fr i) < 0)) : FI out N t fr to n (i + 1) F := by
  refine ⟨h.len, fun u hu => ?_⟩
  rcases h.val u hu with ⟨q1, q2, q3⟩ | q
  · refine .inl ⟨q1, q2, fun j hj hfj hw => ?_⟩
    by_cases ej : j = i
    · subst ej
      rcases h.val _ ht with ⟨_, g, _⟩ | ⟨d, g1, _, g2, g3⟩
      · exact g n (Nat.le_refl _) hw
      · have hd := g3 n hw
        by_cases en : d = n
        · exact hno ⟨by rw [g1, en], by rw [hfj, q1]; decide⟩
        · exact q2 (d + 1) (by omega) (.succ (by rw [← hfj]; exact hto) g2)
    · exact q3 j (by omega) hfj hw
  · exact .inr q
theorem FI.next (h : FI out N t fr to n E F) (hedge : ∀ u c, u < N → c ∈ out u → ∃ k, k < E ∧ fr k = u ∧ to k = c) : FI out N t fr to (n + 1) 0 F := by
  refine ⟨h.len, fun u hu => ?_⟩
  rcases h.val u hu with ⟨q1, q2, q3⟩ | ⟨d, q1, q2, q⟩
  · refine .inl ⟨q1, fun k hk hw => ?_, fun j hj => absurd hj (by omega)⟩
    by_cases e : k = n + 1
    · subst e
      cases hw with
      | succ hc hw =>
        obtain ⟨j, hj, hf, rfl⟩ := hedge u _ hu hc
        exact q3 j hj hf hw
    · exact q2 k (by omega) hw
  · exact .inr ⟨d, q1, by omega, q⟩
theorem min_chain (hout : ∀ u, u < N → ∀ c, c ∈ out u → c < N) : ∀ d u, u < N → WI out d u t → (∀ k, WI out k u t → d ≤ k) → ∃ L : List Nat, L.Nodup ∧ L.length = d + 1 ∧ ∀ x ∈ L, x < N ∧ ∃ e, e ≤ d ∧ WI out e x t := by
  intro d
  induction d with
  | zero => intro u hu hw _; exact ⟨[u], by simp, rfl, fun x hx => by rw [List.mem_singleton] at hx; subst hx; exact ⟨hu, 0, Nat.le_refl _, hw⟩⟩
  | succ d ih =>
    intro u hu hw hmin
    cases hw with
    | succ hc hw =>
      rename_i c
      obtain ⟨L, h1, h2, h3⟩ := ih c (hout u hu c hc) hw fun k hk => by have := hmin _ (.succ hc hk); omega
      refine ⟨u :: L, List.nodup_cons.2 ⟨fun hm => ?_, h1⟩, by simp [h2], fun x hx => ?_⟩
      · obtain ⟨_, e, he, hwe⟩ := h3 u hm
        have := hmin _ hwe; omega
      · rcases List.mem_cons.1 hx with rfl | hx
        · exact ⟨hu, d + 1, Nat.le_refl _, .succ hc hw⟩
        · obtain ⟨g1, e, g2, g3⟩ := h3 x hx
          exact ⟨g1, e, by omega, g3⟩
theorem WI_least {u : Nat} : ∀ k, WI out k u t → ∃ d, WI out d u t ∧ ∀ j, WI out j u t → d ≤ j := by
  intro k
  induction k using Nat.strongRecOn with
  | ind k ih =>
    intro hw
    by_cases hm : ∃ j, j < k ∧ WI out j u t
    · obtain ⟨j, hj, hwj⟩ := hm; exact ih j hj hwj
    · exact ⟨k, hw, fun j hj => Nat.le_of_not_lt fun h => hm ⟨j, h, hj⟩⟩
theorem FI.done (h : FI out N t fr to N 0 F) (hout : ∀ u, u < N → ∀ c, c ∈ out u → c < N) : Dst out N t F := by
  refine ⟨h.len, fun u hu => ?_⟩
  rcases h.val u hu with ⟨q1, q2, _⟩ | ⟨d, q1, _, q2, q3⟩
  · refine .inl ⟨q1, fun k hw => ?_⟩
    obtain ⟨d, hd, hmin⟩ := WI_least k hw
    obtain ⟨L, h1, h2, h3⟩ := min_chain hout d u hu hd hmin
    have := nodup_le (L := List.range N) h1 fun x hx => List.mem_range.2 (h3 x hx).1
    rw [h2, List.length_range] at this
    exact q2 d (by omega) hd
  · exact .inr ⟨d, q1, q2, q3⟩
theorem FI.range (h : FI out N t fr to n i F) {u : Nat} (hu : u < N) : -1 ≤ el F u ∧ el F u ≤ n + 1 := by
  rcases h.val u hu with ⟨q1, _⟩ | ⟨d, q1, q2, _⟩
  · omega
  · omega
end
-- the best edge
def CB (ns : List ByteArray) (es : List Edge) (i : Nat) (best least : Int) : Prop := (best = -1 ∧ least = 0 ∧ NoBest ns es i) ∨ ∃ b d : Nat, best = (b : Int) ∧ least = (d : Int) ∧ BestU ns es i b d
section
variable {ns : List ByteArray} {es : List Edge} {i : Nat} {best least : Int}
theorem CB.start (ns : List ByteArray) (es : List Edge) : CB ns es 0 (-1) 0 := .inl ⟨rfl, rfl, fun k hk => absurd hk (by omega)⟩
theorem CB.skip (h : CB ns es i best least) (hno : (el es i).2.2 = true → ∀ d, ¬ BackD ns es i d) : CB ns es (i + 1) best least := by
  rcases h with ⟨h1, h2, h3⟩ | ⟨b, d, h1, h2, h3⟩
  · refine .inl ⟨h1, h2, fun k hk hn d' => ?_⟩
    by_cases e : k = i
    · subst e; exact hno hn d'
    · exact h3 k (by omega) hn d'
  · refine .inr ⟨b, d, h1, h2, ⟨by have := h3.lt; omega, h3.neg, h3.dst, fun k hk hn d' hb => ?_⟩⟩
    by_cases e : k = i
    · subst e; exact absurd hb (hno hn d')
    · exact h3.min k (by omega) hn d' hb
theorem CB.worse (h : CB ns es i best least) (h0 : ¬ best < 0) {d0 : Nat} (hd : BackD ns es i d0) (hl : least ≤ d0) : CB ns es (i + 1) best least := by
  rcases h with ⟨h1, h2, h3⟩ | ⟨b, d, h1, h2, h3⟩
  · omega
  · refine .inr ⟨b, d, h1, h2, ⟨by have := h3.lt; omega, h3.neg, h3.dst, fun k hk hn d' hb => ?_⟩⟩
    by_cases e : k = i
    · subst e
      rw [hb.uniq hd]
      exact ⟨by omega, fun hkb => by have := h3.lt; omega⟩
    · exact h3.min k (by omega) hn d' hb
theorem CB.better (h : CB ns es i best least) (hn : (el es i).2.2 = true) {d0 : Nat} (hd : BackD ns es i d0) (hl : best < 0 ∨ (d0 : Int) < least) : CB ns es (i + 1) (i : Int) d0 := by
  refine .inr ⟨i, d0, rfl, rfl, ⟨by omega, hn, hd, fun k hk hkn d' hb => ?_⟩⟩
  by_cases e : k = i
  · subst e
    rw [hb.uniq hd]; exact ⟨Nat.le_refl _, fun h => absurd h (by omega)⟩
  · rcases h with ⟨_, _, h3⟩ | ⟨b, d, h1, h2, h3⟩
    · exact absurd hb (h3 k (by omega) hkn d')
    · have := (h3.min k (by omega) hkn d' hb).1
      have hlt := h3.lt
      rcases hl with hl | hl
      · omega
      · exact ⟨by omega, fun _ => by omega⟩
theorem Dst.back {F : List Int} (h : Dst (outN ns es) ns.length (tF ns es i) F) (ht : tgt ns es i < ns.length) : (el F (tgt ns es i) = -1 ∧ ∀ d, ¬ BackD ns es i d) ∨ ∃ d : Nat, el F (tgt ns es i) = d ∧ BackD ns es i d := by
  rcases h.val _ ht with ⟨h1, h2⟩ | ⟨d, h1, h2, h3⟩
  · exact .inl ⟨h1, fun d hb => h2 d hb.1⟩
  · exact .inr ⟨d, h1, h2, h3⟩
theorem PI.stepE {F : List Int} {s u k : Nat} {pre : List Nat} (h : PI ns es F s u pre) (hends : ∀ k, k < es.length → (el es k).1 ∈ ns ∧ (el es k).2.1 ∈ ns) (h0 : 0 < el F u) (hk : k < es.length) (hfk : tF ns es k = u) (hf : el F (tgt ns es k) = el F u - 1)
    (hb : ∀ j, j < k → tF ns es j = u → el F (tgt ns es j) ≠ el F u - 1) : PI ns es F s (tgt ns es k) (pre ++ [k]) := by
  refine ⟨ixS_lt (hends _ hk).2, by omega, fun l hl => ?_⟩
  rw [List.append_assoc]
  exact h.2.2 _ (.cons h0 hk hfk hf hb hl)
theorem Dst.more {F : List Int} {t u j : Nat} (h : Dst (outN ns es) ns.length t F) (hends : ∀ k, k < es.length → (el es k).1 ∈ ns ∧ (el es k).2.1 ∈ ns) (hu : u < ns.length) (h0 : 0 < el F u) (hb : ∀ x, x < j → tF ns es x = u → el F (tgt ns es x) ≠ el F u - 1) : j < es.length := by
  obtain ⟨k, hk, hf, he⟩ := h.nearer hends hu h0
  rcases Nat.lt_or_ge k j with q | q
  · exact absurd he (hb k q hf)
  · omega
end
end Go.Proofs.Ytknfjgbipfpnjaa
