/- The parts of a graph by depth first: what holds at each step. Plain: no program in sight. -/
import Derived.Test.YtknfjgbipfpnjaaEl
namespace Go.Knot
open Go.Eng
def up {β : Type} (f : Nat → β) (i : Nat) (v : β) : Nat → β := fun j => if j = i then v else f j
theorem up_same {β : Type} (f : Nat → β) (i : Nat) (v : β) : up f i v i = v := if_pos rfl
theorem up_ne {β : Type} (f : Nat → β) {i j : Nat} (v : β) (h : j ≠ i) : up f i v j = f j := if_neg h
inductive RR (out : Nat → List Nat) : Nat → Nat → Prop
  | refl (a : Nat) : RR out a a
  | step {a b c : Nat} : RR out a b → c ∈ out b → RR out a c
theorem RR.trans {out : Nat → List Nat} {a b c : Nat} (h : RR out a b) (k : RR out b c) : RR out a c := by
  induction k with
  | refl => exact h
  | step _ hc ih => exact .step ih hc
structure KI (n : Nat) (out : Nat → List Nat) (part : Nat → Int) (low seen next : Nat → Nat) (way opn : List Nat) (cnt parts : Nat) (x : Option Nat) : Prop where
  nx : ∀ v, v < n → next v ≤ (out v).length
  new : ∀ v, v < n → seen v = 0 → next v = 0 ∧ part v = -1
  top : ∀ v, v < n → seen v ≤ cnt
  inj : ∀ u v, u < n → v < n → 0 < seen u → seen u = seen v → u = v
  wsort : way.Pairwise (fun a b => seen a < seen b)
  osort : opn.Pairwise (fun a b => seen a < seen b)
  wsub : ∀ a, a ∈ way → a ∈ opn
  omem : ∀ u, u ∈ opn ↔ u < n ∧ 0 < seen u ∧ part u < 0
  wr : ∀ p, p ∈ way → ∀ u, u ∈ opn → seen p ≤ seen u → RR out p u
  wc : ∀ u, u ∈ opn → ∃ p, p ∈ way ∧ seen p ≤ seen u
  lw : ∀ u, u ∈ opn → low u ≤ seen u ∧ ∃ t, t ∈ opn ∧ seen t = low u ∧ RR out u t
  fin : ∀ u, u ∈ opn → u ∉ way → low u < seen u ∧ next u = (out u).length ∧ ∀ p, p ∈ way → seen p ≤ seen u → (∀ q, q ∈ way → seen q ≤ seen u → seen q ≤ seen p) → low p ≤ low u
  edg : ∀ u, u < n → ∀ i, i < next u → (x = some (el (out u) i) ∨ (0 < seen (el (out u) i) ∧ (u ∈ opn → el (out u) i ∈ opn → low u ≤ seen (el (out u) i))))
  cl : ∀ u, u < n → 0 ≤ part u → part u < parts ∧ next u = (out u).length ∧ ∀ t, t ∈ out u → 0 ≤ part t ∧ part t ≤ part u
  scc : ∀ u v, u < n → v < n → 0 ≤ part u → 0 ≤ part v → (part u = part v ↔ RR out u v ∧ RR out v u)
  use : ∀ k : Nat, k < parts → ∃ u, u < n ∧ part u = k
  ex : ∀ v, x = some v → v < n ∧ seen v = 0 ∧ ∀ p, p ∈ way → RR out p v
section
variable {n : Nat} {out : Nat → List Nat} {part : Nat → Int} {low seen next : Nat → Nat} {way opn : List Nat} {cnt parts : Nat} {x : Option Nat}
theorem KI.start (n : Nat) (out : Nat → List Nat) {part : Nat → Int} (hp : ∀ v, v < n → part v = -1) {low seen next : Nat → Nat} (hs : ∀ v, v < n → seen v = 0) (hn : ∀ v, v < n → next v = 0) : KI n out part low seen next [] [] 0 0 none := by
  refine ⟨fun v h => by rw [hn v h]; omega, fun v h _ => ⟨hn v h, hp v h⟩, fun v h => by rw [hs v h]; omega, fun u v h _ h1 => by rw [hs u h] at h1; omega, List.Pairwise.nil, List.Pairwise.nil, fun a h => by simp at h, fun u => ⟨fun h => by simp at h, fun ⟨h, h1, _⟩ => by rw [hs u h] at h1; omega⟩, fun p h => by simp at h, fun u h => by simp at h, fun u h => by simp at h, fun u h => by simp at h, fun u h i hi => by rw [hn u h] at hi; omega, fun u h h1 => by rw [hp u h] at h1; omega, fun u v h _ h1 => by rw [hp u h] at h1; omega, fun k h => by omega, fun v h => by cases h⟩
theorem KI.olt (h : KI n out part low seen next way opn cnt parts x) {u : Nat} (hu : u ∈ opn) : u < n := ((h.omem u).1 hu).1
theorem KI.wlt (h : KI n out part low seen next way opn cnt parts x) {u : Nat} (hu : u ∈ way) : u < n := h.olt (h.wsub u hu)
theorem KI.first (h : KI n out part low seen next [] opn cnt parts none) {v : Nat} (hv : v < n) (hs : seen v = 0) : KI n out part low seen next [] opn cnt parts (some v) :=
  ⟨h.nx, h.new, h.top, h.inj, h.wsort, h.osort, h.wsub, h.omem, h.wr, h.wc, h.lw, h.fin, fun u hu i hi => .inr ((h.edg u hu i hi).resolve_left (by simp)), h.cl, h.scc, h.use, fun w hw => by cases hw; exact ⟨hv, hs, fun p hp => by simp at hp⟩⟩
theorem KI.enter {v : Nat} (h : KI n out part low seen next way opn cnt parts (some v)) : KI n out part (up low v (cnt + 1)) (up seen v (cnt + 1)) next (way ++ [v]) (opn ++ [v]) (cnt + 1) parts none := by
  obtain ⟨hv, hs, hx⟩ := h.ex v rfl
  have hno : v ∉ opn := fun hm => by have := ((h.omem v).1 hm).2.1; omega
  have hnw : v ∉ way := fun hm => hno (h.wsub v hm)
  have hne : ∀ u, u ∈ opn → u ≠ v := fun u hu e => hno (e ▸ hu)
  have hnew : ∀ u, u ∈ way → u ≠ v := fun u hu e => hnw (e ▸ hu)
  have hol : ∀ u, u ∈ opn → up seen v (cnt + 1) u = seen u := fun u hu => up_ne _ _ (hne u hu)
  have hwl : ∀ u, u ∈ way → up seen v (cnt + 1) u = seen u := fun u hu => up_ne _ _ (hnew u hu)
  have hoc : ∀ u, u ∈ opn → seen u ≤ cnt := fun u hu => h.top u (h.olt hu)
  have hwc : ∀ u, u ∈ way → seen u ≤ cnt := fun u hu => hoc u (h.wsub u hu)
  have hpv := (h.new v hv hs).2
  refine ⟨h.nx, ?_, ?_, ?_, ?_, ?_, ?_, ?_, ?_, ?_, ?_, ?_, ?_, h.cl, h.scc, h.use, fun w hw => by cases hw⟩
  · intro u hu h0
    by_cases e : u = v
    · subst e; rw [up_same] at h0; omega
    · rw [up_ne _ _ e] at h0; exact h.new u hu h0
  · intro u hu
    by_cases e : u = v
    · subst e; rw [up_same]; omega
    · rw [up_ne _ _ e]; have := h.top u hu; omega
  · intro u u' hu hu' h0 he
    by_cases e : u = v
    · by_cases e' : u' = v
      · rw [e, e']
      · subst e; rw [up_same, up_ne _ _ e'] at he; have := h.top u' hu'; omega
    · by_cases e' : u' = v
      · subst e'; rw [up_same, up_ne _ _ e] at he; have := h.top u hu; omega
      · rw [up_ne _ _ e, up_ne _ _ e'] at he; rw [up_ne _ _ e] at h0; exact h.inj u u' hu hu' h0 he
  · rw [List.pairwise_append]
    refine ⟨h.wsort.imp_of_mem fun {a b} ha hb hl => by rw [hwl a ha, hwl b hb]; exact hl, List.pairwise_singleton _ _, fun a ha b hb => ?_⟩
    rw [List.mem_singleton] at hb; subst hb
    rw [hwl a ha, up_same]; have := hwc a ha; omega
  · rw [List.pairwise_append]
    refine ⟨h.osort.imp_of_mem fun {a b} ha hb hl => by rw [hol a ha, hol b hb]; exact hl, List.pairwise_singleton _ _, fun a ha b hb => ?_⟩
    rw [List.mem_singleton] at hb; subst hb
    rw [hol a ha, up_same]; have := hoc a ha; omega
  · intro a ha
    rcases List.mem_append.1 ha with ha | ha
    · exact List.mem_append_left _ (h.wsub a ha)
    · exact List.mem_append_right _ ha
  · intro u
    rw [List.mem_append, List.mem_singleton]
    by_cases e : u = v
    · subst e; rw [up_same]; exact ⟨fun _ => ⟨hv, by omega, by omega⟩, fun _ => .inr rfl⟩
    · rw [up_ne _ _ e]; exact ⟨fun h' => (h.omem u).1 (h'.resolve_right e), fun h' => .inl ((h.omem u).2 h')⟩
  · intro p hp u hu hl
    rcases List.mem_append.1 hp with hp1 | hp1 <;> rcases List.mem_append.1 hu with hu1 | hu1
    · rw [hwl p hp1, hol u hu1] at hl; exact h.wr p hp1 u hu1 hl
    · rw [List.mem_singleton] at hu1; rw [hu1]; exact hx p hp1
    · rw [List.mem_singleton] at hp1; rw [hp1] at hl
      rw [up_same, hol u hu1] at hl; have := hoc u hu1; omega
    · rw [List.mem_singleton] at hp1 hu1; rw [hp1, hu1]; exact .refl _
  · intro u hu
    rcases List.mem_append.1 hu with hu | hu
    · obtain ⟨p, hp, hl⟩ := h.wc u hu
      exact ⟨p, List.mem_append_left _ hp, by rw [hwl p hp, hol u hu]; exact hl⟩
    · exact ⟨u, List.mem_append_right _ hu, Nat.le_refl _⟩
  · intro u hu
    rcases List.mem_append.1 hu with hu | hu
    · obtain ⟨h1, t, ht, h2, h3⟩ := h.lw u hu
      rw [up_ne _ _ (hne u hu), hol u hu]
      exact ⟨h1, t, List.mem_append_left _ ht, by rw [hol t ht]; exact h2, h3⟩
    · rw [List.mem_singleton] at hu; subst hu
      rw [up_same, up_same]
      exact ⟨Nat.le_refl _, u, List.mem_append_right _ (by simp), up_same _ _ _, .refl _⟩
  · intro u hu hw
    rw [List.mem_append] at hw
    have hw1 : u ∉ way := fun h => hw (.inl h)
    have hw2 : u ≠ v := fun e => hw (.inr (by simp [e]))
    have hu : u ∈ opn := (List.mem_append.1 hu).resolve_right (by simp [hw2])
    obtain ⟨h1, h2, h3⟩ := h.fin u hu hw1
    rw [up_ne _ _ hw2, hol u hu]
    refine ⟨h1, h2, fun p hp hl hq => ?_⟩
    rcases List.mem_append.1 hp with hp1 | hp1
    · rw [up_ne _ _ (hnew p hp1)]
      rw [hwl p hp1] at hl
      refine h3 p hp1 hl fun q hqm hql => ?_
      have := hq q (List.mem_append_left _ hqm) (by rw [hwl q hqm]; exact hql)
      rwa [hwl q hqm, hwl p hp1] at this
    · rw [List.mem_singleton] at hp1; rw [hp1] at hl
      rw [up_same] at hl; have := hoc u hu; omega
  · intro u hu i hi
    refine .inr ?_
    rcases h.edg u hu i hi with e | ⟨h1, h2⟩
    · injection e with e
      rw [← e, up_same]
      refine ⟨by omega, fun hum _ => ?_⟩
      rcases List.mem_append.1 hum with hum | hum
      · rw [up_ne _ _ (hne u hum)]
        have := (h.lw u hum).1; have := hoc u hum; omega
      · rw [List.mem_singleton] at hum; subst hum; rw [up_same]; omega
    · have hne2 : el (out u) i ≠ v := fun e => by rw [e] at h1; omega
      rw [up_ne _ _ hne2]
      refine ⟨h1, fun hum htm => ?_⟩
      have htm : el (out u) i ∈ opn := (List.mem_append.1 htm).resolve_right (by simp [hne2])
      rcases List.mem_append.1 hum with hum | hum
      · rw [up_ne _ _ (hne u hum)]; exact h2 hum htm
      · rw [List.mem_singleton] at hum; subst hum
        have := (h.new u hu hs).1; omega
theorem KI.wmax {v : Nat} (h : KI n out part low seen next (way ++ [v]) opn cnt parts x) : ∀ q, q ∈ way ++ [v] → seen q ≤ seen v := by
  intro q hq
  rcases List.mem_append.1 hq with hq | hq
  · have := (List.pairwise_append.1 h.wsort).2.2 q hq v (by simp); omega
  · rw [List.mem_singleton] at hq; subst hq; exact Nat.le_refl _
theorem KI.vtop {v : Nat} (h : KI n out part low seen next (way ++ [v]) opn cnt parts x) : v < n ∧ v ∈ opn ∧ 0 < seen v ∧ part v < 0 := by
  have h1 := h.wsub v (by simp)
  have h2 := (h.omem v).1 h1
  exact ⟨h2.1, h1, h2.2.1, h2.2.2⟩
/-- one edge more of the way's last node has been looked at -/
theorem KI.step {v : Nat} (h : KI n out part low seen next (way ++ [v]) opn cnt parts none) (hi : next v < (out v).length) (hout : ∀ u, u < n → ∀ t, t ∈ out u → t < n)
    {low' : Nat → Nat} {x' : Option Nat} (hl : low' = low ∨ (el (out v) (next v) ∈ opn ∧ low' = up low v (min (low v) (seen (el (out v) (next v))))))
    (hx : (x' = none ∧ 0 < seen (el (out v) (next v)) ∧ (el (out v) (next v) ∈ opn → low' v ≤ seen (el (out v) (next v)))) ∨ (x' = some (el (out v) (next v)) ∧ seen (el (out v) (next v)) = 0)) :
    KI n out part low' seen (up next v (next v + 1)) (way ++ [v]) opn cnt parts x' := by
  obtain ⟨hv, hvo, hvs, hvp⟩ := h.vtop
  have htm : el (out v) (next v) ∈ out v := by rw [el_eq hi]; exact List.getElem_mem _
  have hlow : ∀ u, low' u ≤ low u ∧ (u ≠ v → low' u = low u) := by
    rcases hl with rfl | ⟨_, rfl⟩
    · exact fun u => ⟨Nat.le_refl _, fun _ => rfl⟩
    · intro u
      by_cases e : u = v
      · subst e; rw [up_same]; exact ⟨Nat.min_le_left _ _, fun h => absurd rfl h⟩
      · rw [up_ne _ _ e]; exact ⟨Nat.le_refl _, fun _ => rfl⟩
  refine ⟨?_, ?_, h.top, h.inj, h.wsort, h.osort, h.wsub, h.omem, h.wr, h.wc, ?_, ?_, ?_, ?_, h.scc, h.use, ?_⟩
  · intro u hu
    by_cases e : u = v
    · subst e; rw [up_same]; omega
    · rw [up_ne _ _ e]; exact h.nx u hu
  · intro u hu h0
    have e : u ≠ v := fun e => by subst e; omega
    rw [up_ne _ _ e]; exact h.new u hu h0
  · intro u hu
    obtain ⟨h1, t, ht, h2, h3⟩ := h.lw u hu
    refine ⟨Nat.le_trans (hlow u).1 h1, ?_⟩
    by_cases e : u = v
    · subst e
      rcases hl with rfl | ⟨hto, rfl⟩
      · exact ⟨t, ht, h2, h3⟩
      · rw [up_same]
        by_cases hm : low u ≤ seen (el (out u) (next u))
        · rw [Nat.min_eq_left hm]; exact ⟨t, ht, h2, h3⟩
        · rw [Nat.min_eq_right (by omega)]; exact ⟨_, hto, rfl, .step (.refl _) htm⟩
    · rw [(hlow u).2 e]; exact ⟨t, ht, h2, h3⟩
  · intro u hu hw
    have e : u ≠ v := fun e => hw (by simp [e])
    obtain ⟨h1, h2, h3⟩ := h.fin u hu hw
    rw [(hlow u).2 e, up_ne _ _ e]
    exact ⟨h1, h2, fun p hp hl hq => Nat.le_trans (hlow p).1 (h3 p hp hl hq)⟩
  · intro u hu i hiu
    by_cases e : u = v
    · subst e
      rw [up_same] at hiu
      by_cases e2 : i = next u
      · subst e2
        rcases hx with ⟨rfl, h1, h2⟩ | ⟨rfl, h1⟩
        · exact .inr ⟨h1, fun _ => h2⟩
        · exact .inl rfl
      · obtain ⟨h1, h2⟩ := (h.edg u hu i (by omega)).resolve_left (by simp)
        exact .inr ⟨h1, fun a b => Nat.le_trans (hlow u).1 (h2 a b)⟩
    · rw [up_ne _ _ e] at hiu
      obtain ⟨h1, h2⟩ := (h.edg u hu i hiu).resolve_left (by simp)
      exact .inr ⟨h1, fun a b => Nat.le_trans (hlow u).1 (h2 a b)⟩
  · intro u hu hp
    have e : u ≠ v := fun e => by subst e; omega
    rw [up_ne _ _ e]; exact h.cl u hu hp
  · intro w hw
    rcases hx with ⟨rfl, _⟩ | ⟨rfl, h1⟩
    · cases hw
    · injection hw with hw; subst hw
      exact ⟨hout v hv _ htm, h1, fun p hp => .step (h.wr p hp v hvo (h.wmax p hp)) htm⟩
/-- the way's last node is done with, and is none that closes a part -/
theorem KI.leave {v u0 : Nat} (h : KI n out part low seen next ((way ++ [u0]) ++ [v]) opn cnt parts none) (hi : next v = (out v).length) (hne : low v ≠ seen v) :
    KI n out part (up low u0 (min (low u0) (low v))) seen next (way ++ [u0]) opn cnt parts none := by
  obtain ⟨hv, hvo, hvs, hvp⟩ := h.vtop
  have hws := List.pairwise_append.1 h.wsort
  have hu0v : seen u0 < seen v := hws.2.2 u0 (by simp) v (by simp)
  have hu0o : u0 ∈ opn := h.wsub u0 (by simp)
  have hmem : ∀ q, q ∈ way ++ [u0] → q ∈ (way ++ [u0]) ++ [v] := fun q hq => List.mem_append_left _ hq
  have hmax : ∀ q, q ∈ way ++ [u0] → seen q ≤ seen u0 := by
    intro q hq
    rcases List.mem_append.1 hq with hq | hq
    · have := (List.pairwise_append.1 hws.1).2.2 q hq u0 (by simp); omega
    · rw [List.mem_singleton] at hq; subst hq; exact Nat.le_refl _
  have hvw : v ∉ way ++ [u0] := fun hm => by have := hmax v hm; omega
  obtain ⟨hlv, tv, htv, etv, rtv⟩ := h.lw v hvo
  have hlow : ∀ u, up low u0 (min (low u0) (low v)) u ≤ low u := by
    intro u
    by_cases e : u = u0
    · subst e; rw [up_same]; exact Nat.min_le_left _ _
    · rw [up_ne _ _ e]; exact Nat.le_refl _
  refine ⟨h.nx, h.new, h.top, h.inj, hws.1, h.osort, fun a ha => h.wsub a (hmem a ha), h.omem, fun p hp => h.wr p (hmem p hp), ?_, ?_, ?_, ?_, h.cl, h.scc, h.use, fun w hw => by cases hw⟩
  · intro u hu
    obtain ⟨p, hp, hl⟩ := h.wc u hu
    rcases List.mem_append.1 hp with hp | hp
    · exact ⟨p, hp, hl⟩
    · rw [List.mem_singleton] at hp; subst hp
      exact ⟨u0, by simp, by omega⟩
  · intro u hu
    obtain ⟨h1, t, ht, h2, h3⟩ := h.lw u hu
    refine ⟨Nat.le_trans (hlow u) h1, ?_⟩
    by_cases e : u = u0
    · subst e; rw [up_same]
      by_cases hm : low u ≤ low v
      · rw [Nat.min_eq_left hm]; exact ⟨t, ht, h2, h3⟩
      · rw [Nat.min_eq_right (by omega)]; exact ⟨tv, htv, etv, (h.wr u (by simp) v hvo (by omega)).trans rtv⟩
    · rw [up_ne _ _ e]; exact ⟨t, ht, h2, h3⟩
  · intro u hu hw
    by_cases e : u = v
    · subst e
      have e2 : u ≠ u0 := fun e => by subst e; omega
      rw [up_ne _ _ e2]
      refine ⟨by omega, hi, fun p hp hl hq => ?_⟩
      have h1 := hq u0 (by simp) (by omega)
      have h2 := hmax p hp
      have : p = u0 := h.inj p u0 (h.wlt (hmem p hp)) (h.olt hu0o) (((h.omem p).1 (h.wsub p (hmem p hp))).2.1) (by omega)
      subst this
      rw [up_same]; exact Nat.min_le_right _ _
    · have hw2 : u ∉ (way ++ [u0]) ++ [v] := fun hm => (List.mem_append.1 hm).elim hw (fun h => e (by simpa using h))
      have e0 : u ≠ u0 := fun e => hw (by simp [e])
      obtain ⟨h1, h2, h3⟩ := h.fin u hu hw2
      rw [up_ne _ _ e0]
      refine ⟨h1, h2, fun p hp hl hq => ?_⟩
      by_cases hvu : seen v ≤ seen u
      · have h4 := h3 v (by simp) hvu (fun q hqm _ => h.wmax q hqm)
        have h5 := hq u0 (by simp) (by omega)
        have h6 := hmax p hp
        have : p = u0 := h.inj p u0 (h.wlt (hmem p hp)) (h.olt hu0o) (((h.omem p).1 (h.wsub p (hmem p hp))).2.1) (by omega)
        subst this
        rw [up_same]; exact Nat.le_trans (Nat.min_le_right _ _) h4
      · refine Nat.le_trans (hlow p) (h3 p (hmem p hp) hl fun q hqm hql => ?_)
        rcases List.mem_append.1 hqm with hqm | hqm
        · exact hq q hqm hql
        · rw [List.mem_singleton] at hqm; subst hqm; omega
  · intro u hu i hiu
    obtain ⟨h1, h2⟩ := (h.edg u hu i hiu).resolve_left (by simp)
    exact .inr ⟨h1, fun a b => Nat.le_trans (hlow u) (h2 a b)⟩
/-- a node that is none that closes a part has one ahead of it in the way -/
theorem KI.notfirst {v : Nat} (h : KI n out part low seen next ([] ++ [v]) opn cnt parts none) : low v = seen v := by
  obtain ⟨hv, hvo, hvs, hvp⟩ := h.vtop
  obtain ⟨h1, t, ht, h2, _⟩ := h.lw v hvo
  obtain ⟨p, hp, hl⟩ := h.wc t ht
  have hp : p = v := by simpa using hp
  subst hp; omega
/-- the way's last node closes a part -/
theorem KI.close {v : Nat} {O1 O2 : List Nat} (h : KI n out part low seen next (way ++ [v]) (O1 ++ v :: O2) cnt parts none) (hi : next v = (out v).length) (he : low v = seen v) (hout : ∀ u, u < n → ∀ t, t ∈ out u → t < n)
    {part' : Nat → Int} (hp' : ∀ u, u < n → part' u = if u ∈ v :: O2 then (parts : Int) else part u) :
    KI n out part' low seen next way O1 cnt (parts + 1) none := by
  obtain ⟨hv, hvo, hvs, hvp⟩ := h.vtop
  have hws := List.pairwise_append.1 h.wsort
  have hos := List.pairwise_append.1 h.osort
  have hC : ∀ u, u ∈ v :: O2 → u ∈ O1 ++ v :: O2 := fun u hu => List.mem_append_right _ hu
  have hO : ∀ u, u ∈ O1 → u ∈ O1 ++ v :: O2 := fun u hu => List.mem_append_left _ hu
  have hCs : ∀ u, u ∈ v :: O2 → seen v ≤ seen u := by
    intro u hu
    rcases List.mem_cons.1 hu with rfl | hu
    · exact Nat.le_refl _
    · have := (List.pairwise_cons.1 hos.2.1).1 u hu; omega
  have hOs : ∀ u, u ∈ O1 → seen u < seen v := fun u hu => hos.2.2 u hu v (by simp)
  have hCof : ∀ u, u ∈ O1 ++ v :: O2 → seen v ≤ seen u → u ∈ v :: O2 := by
    intro u hu hl
    rcases List.mem_append.1 hu with hu | hu
    · have := hOs u hu; omega
    · exact hu
  have hOof : ∀ u, u ∈ O1 ++ v :: O2 → seen u < seen v → u ∈ O1 := by
    intro u hu hl
    rcases List.mem_append.1 hu with hu | hu
    · exact hu
    · have := hCs u hu; omega
  have hdis : ∀ u, u ∈ O1 → u ∉ v :: O2 := fun u h1 h2 => by have := hOs u h1; have := hCs u h2; omega
  have hCn : ∀ u, u ∈ v :: O2 → u < n := fun u hu => h.olt (hC u hu)
  have hCp : ∀ u, u ∈ v :: O2 → part u < 0 := fun u hu => ((h.omem u).1 (hC u hu)).2.2
  have hpC : ∀ u, u ∈ v :: O2 → part' u = parts := fun u hu => by rw [hp' u (hCn u hu), if_pos hu]
  have hpN : ∀ u, u < n → u ∉ v :: O2 → part' u = part u := fun u hu hn => by rw [hp' u hu, if_neg hn]
  have hpO : ∀ u, u < n → 0 ≤ part u → part' u = part u := fun u hu hn => hpN u hu fun hm => by have := hCp u hm; omega
  have hCw : ∀ u, u ∈ v :: O2 → u ∈ way ++ [v] → u = v := by
    intro u hu hw
    have h1 := h.wmax u hw
    have h2 := hCs u hu
    exact h.inj u v (hCn u hu) hv (((h.omem u).1 (hC u hu)).2.1) (by omega)
  have hClow : ∀ u, u ∈ v :: O2 → seen v ≤ low u := by
    intro u hu
    by_cases e : u = v
    · subst e; omega
    · have := (h.fin u (hC u hu) (fun hw => e (hCw u hu hw))).2.2 v (by simp) (hCs u hu) (fun q hq _ => h.wmax q hq)
      omega
  have hCnext : ∀ u, u ∈ v :: O2 → next u = (out u).length := by
    intro u hu
    by_cases e : u = v
    · subst e; exact hi
    · exact (h.fin u (hC u hu) (fun hw => e (hCw u hu hw))).2.1
  have hCout : ∀ u, u ∈ v :: O2 → ∀ t, t ∈ out u → t ∈ v :: O2 ∨ 0 ≤ part t := by
    intro u hu t ht
    obtain ⟨i, hil, rfl⟩ := List.getElem_of_mem ht
    obtain ⟨h1, h2⟩ := (h.edg u (hCn u hu) i (by rw [hCnext u hu]; exact hil)).resolve_left (by simp)
    rw [el_eq hil] at h1 h2
    by_cases hp : 0 ≤ part ((out u)[i])
    · exact .inr hp
    · have hto : (out u)[i] ∈ O1 ++ v :: O2 := (h.omem _).2 ⟨hout u (hCn u hu) _ ht, h1, by omega⟩
      exact .inl (hCof _ hto (Nat.le_trans (hClow u hu) (h2 (hC u hu) hto)))
  have hCback : ∀ m u, seen u ≤ m → u ∈ v :: O2 → RR out u v := by
    intro m
    induction m with
    | zero => intro u hm hu; have := ((h.omem u).1 (hC u hu)).2.1; omega
    | succ m ih =>
      intro u hm hu
      by_cases e : u = v
      · subst e; exact .refl _
      · have h1 := (h.fin u (hC u hu) (fun hw => e (hCw u hu hw))).1
        obtain ⟨_, t, ht, h2, h3⟩ := h.lw u (hC u hu)
        exact h3.trans (ih t (by omega) (hCof t ht (by have := hClow u hu; omega)))
  have hCfrom : ∀ u, u ∈ v :: O2 → RR out v u := fun u hu => h.wr v (by simp) u (hC u hu) (hCs u hu)
  have hold : ∀ u w, u < n → 0 ≤ part u → RR out u w → w < n ∧ 0 ≤ part w := by
    intro u w hu hp hr
    induction hr with
    | refl => exact ⟨hu, hp⟩
    | step _ hc ih => exact ⟨hout _ ih.1 _ hc, ((h.cl _ ih.1 ih.2).2.2 _ hc).1⟩
  have hcase : ∀ u, u < n → 0 ≤ part' u → (u ∈ v :: O2) ∨ (u ∉ v :: O2 ∧ 0 ≤ part u) := by
    intro u hu hp
    by_cases hm : u ∈ v :: O2
    · exact .inl hm
    · rw [hpN u hu hm] at hp; exact .inr ⟨hm, hp⟩
  refine ⟨h.nx, ?_, h.top, h.inj, hws.1, hos.1, ?_, ?_, ?_, ?_, ?_, ?_, ?_, ?_, ?_, ?_, fun w hw => by cases hw⟩
  · intro u hu h0
    have h1 := h.new u hu h0
    refine ⟨h1.1, ?_⟩
    rw [hpN u hu fun hm => by have := ((h.omem u).1 (hC u hm)).2.1; omega]; exact h1.2
  · intro a ha
    exact hOof a (h.wsub a (List.mem_append_left _ ha)) (hws.2.2 a ha v (by simp))
  · intro u
    constructor
    · intro hu
      have h1 := (h.omem u).1 (hO u hu)
      exact ⟨h1.1, h1.2.1, by rw [hpN u h1.1 (hdis u hu)]; exact h1.2.2⟩
    · rintro ⟨h1, h2, h3⟩
      have hnm : u ∉ v :: O2 := fun hm => by rw [hpC u hm] at h3; omega
      rw [hpN u h1 hnm] at h3
      exact (List.mem_append.1 ((h.omem u).2 ⟨h1, h2, h3⟩)).resolve_right hnm
  · exact fun p hp u hu => h.wr p (List.mem_append_left _ hp) u (hO u hu)
  · intro u hu
    obtain ⟨p, hp, hl⟩ := h.wc u (hO u hu)
    rcases List.mem_append.1 hp with hp | hp
    · exact ⟨p, hp, hl⟩
    · rw [List.mem_singleton] at hp; subst hp; have := hOs u hu; omega
  · intro u hu
    obtain ⟨h1, t, ht, h2, h3⟩ := h.lw u (hO u hu)
    exact ⟨h1, t, hOof t ht (by have := hOs u hu; omega), h2, h3⟩
  · intro u hu hw
    have hw2 : u ∉ way ++ [v] := fun hm => (List.mem_append.1 hm).elim hw fun e => by
      have e : u = v := by simpa using e
      subst e; exact hdis _ hu (by simp)
    obtain ⟨h1, h2, h3⟩ := h.fin u (hO u hu) hw2
    refine ⟨h1, h2, fun p hp hl hq => h3 p (List.mem_append_left _ hp) hl fun q hqm hql => ?_⟩
    rcases List.mem_append.1 hqm with hqm | hqm
    · exact hq q hqm hql
    · rw [List.mem_singleton] at hqm; subst hqm; have := hOs u hu; omega
  · intro u hu i hiu
    obtain ⟨h1, h2⟩ := (h.edg u hu i hiu).resolve_left (by simp)
    exact .inr ⟨h1, fun a b => h2 (hO _ a) (hO _ b)⟩
  · intro u hu hp
    rcases hcase u hu hp with hm | ⟨hm, hp0⟩
    · rw [hpC u hm]
      refine ⟨by omega, hCnext u hm, fun t ht => ?_⟩
      rcases hCout u hm t ht with htm | htp
      · rw [hpC t htm]; exact ⟨by omega, Int.le_refl _⟩
      · have htn := hout u hu t ht
        have := (h.cl t htn htp).1
        rw [hpO t htn htp]; exact ⟨htp, by omega⟩
    · obtain ⟨h1, h2, h3⟩ := h.cl u hu hp0
      rw [hpN u hu hm]
      refine ⟨by omega, h2, fun t ht => ?_⟩
      obtain ⟨h4, h5⟩ := h3 t ht
      rw [hpO t (hout u hu t ht) h4]; exact ⟨h4, h5⟩
  · intro u w hu hw hpu hpw
    rcases hcase u hu hpu with hm | ⟨hm, hp0⟩ <;> rcases hcase w hw hpw with hm2 | ⟨hm2, hp2⟩
    · rw [hpC u hm, hpC w hm2]
      exact ⟨fun _ => ⟨(hCback _ u (Nat.le_refl _) hm).trans (hCfrom w hm2), (hCback _ w (Nat.le_refl _) hm2).trans (hCfrom u hm)⟩, fun _ => rfl⟩
    · rw [hpC u hm, hpN w hw hm2]
      have := (h.cl w hw hp2).1
      refine ⟨fun e => by omega, fun ⟨_, hr⟩ => ?_⟩
      have := (hold w u hw hp2 hr).2; have := hCp u hm; omega
    · rw [hpN u hu hm, hpC w hm2]
      have := (h.cl u hu hp0).1
      refine ⟨fun e => by omega, fun ⟨hr, _⟩ => ?_⟩
      have := (hold u w hu hp0 hr).2; have := hCp w hm2; omega
    · rw [hpN u hu hm, hpN w hw hm2]; exact h.scc u w hu hw hp0 hp2
  · intro k hk
    by_cases e : k = parts
    · subst e; exact ⟨v, hv, hpC v (by simp)⟩
    · obtain ⟨u, hu, he⟩ := h.use k (by omega)
      exact ⟨u, hu, by rw [hpO u hu (by omega)]; exact he⟩
theorem KI.same {v u0 : Nat} (h : KI n out part low seen next (way ++ [u0]) opn cnt parts none) (hv : seen u0 < low v) : up low u0 (min (low u0) (low v)) = low := by
  funext j
  by_cases e : j = u0
  · subst e
    have := (h.lw j (h.wsub j (by simp))).1
    rw [up_same, Nat.min_eq_left (by omega)]
  · exact up_ne _ _ e
/-- what the search ends with -/
structure Knotted (n : Nat) (out : Nat → List Nat) (part : Nat → Int) (parts : Nat) : Prop where
  pos : ∀ u, u < n → 0 ≤ part u ∧ part u < parts
  edge : ∀ u, u < n → ∀ t, t ∈ out u → part t ≤ part u
  scc : ∀ u v, u < n → v < n → (part u = part v ↔ RR out u v ∧ RR out v u)
  use : ∀ k : Nat, k < parts → ∃ u, u < n ∧ part u = k
theorem KI.done (h : KI n out part low seen next [] opn cnt parts none) (hs : ∀ u, u < n → 0 < seen u) : Knotted n out part parts := by
  have hp : ∀ u, u < n → 0 ≤ part u := fun u hu => by
    rcases Int.lt_or_le (part u) 0 with hl | hl
    · obtain ⟨p, hp, _⟩ := h.wc u ((h.omem u).2 ⟨hu, hs u hu, hl⟩)
      simp at hp
    · exact hl
  exact ⟨fun u hu => ⟨hp u hu, (h.cl u hu (hp u hu)).1⟩, fun u hu t ht => ((h.cl u hu (hp u hu)).2.2 t ht).2, fun u v hu hv => h.scc u v hu hv (hp u hu) (hp v hv), h.use⟩
end
end Go.Knot
