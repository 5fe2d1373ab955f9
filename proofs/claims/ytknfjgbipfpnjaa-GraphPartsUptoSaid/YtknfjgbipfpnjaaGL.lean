/- Levels: the least ones; what the search keeps. Plain. -/
import Derived.Test.YtknfjgbipfpnjaaG10
namespace Go.Proofs.Ytknfjgbipfpnjaa
open Go.RowKit Go.Eng Go.OrdPure Go.Knot
def ng (e : Edge) : Nat := if e.2.2 = true then 1 else 0
def Rule (es : List Edge) (f : ByteArray → Nat) : Prop := ∀ e ∈ es, f e.2.1 + ng e ≤ f e.1
structure IsLev (ns : List ByteArray) (es : List Edge) (lev : ByteArray → Nat) : Prop where
  rule : Rule es lev
  least : ∀ f, Rule es f → ∀ s ∈ ns, lev s ≤ f s
def NegLoop (es : List Edge) : Prop := ∃ e ∈ es, e.2.2 = true ∧ Rch es [e.2.1] e.1
def ranksOf (ns : List ByteArray) (lev : ByteArray → Nat) : List Rank := ns.map fun s => (s, ((lev s : Nat) : Int))
theorem IsLev.uniq {ns : List ByteArray} {es : List Edge} {l l' : ByteArray → Nat} (h : IsLev ns es l) (h' : IsLev ns es l') : ranksOf ns l = ranksOf ns l' := by
  refine List.map_congr_left fun s hs => ?_
  rw [Nat.le_antisymm (h.least _ h'.rule s hs) (h'.least _ h.rule s hs)]
theorem Rch.trans' {es : List Edge} {a b c : ByteArray} (h : Rch es [a] b) (k : Rch es [b] c) : Rch es [a] c := by
  induction k with
  | here h1 => rw [List.mem_singleton] at h1; subst h1; exact h
  | step he _ ih => exact .step he ih
theorem Rch.refl' (es : List Edge) (a : ByteArray) : Rch es [a] a := .here (by simp)
theorem Rch.one {es : List Edge} {e : Edge} (he : e ∈ es) : Rch es [e.1] e.2.1 := .step he (Rch.refl' _ _)
theorem Rule.down {es : List Edge} {f : ByteArray → Nat} (h : Rule es f) {a b : ByteArray} (hr : Rch es [a] b) : f b ≤ f a := by
  induction hr with
  | here h1 => rw [List.mem_singleton] at h1; subst h1; exact Nat.le_refl _
  | step he _ ih => have := h _ he; omega
/-- with a negative edge that comes back there are none -/
theorem NegLoop.no {es : List Edge} (h : NegLoop es) (f : ByteArray → Nat) : ¬ Rule es f := by
  intro hr
  obtain ⟨e, he, hn, hb⟩ := h
  have h1 := hr e he
  have h2 := hr.down hb
  unfold ng at h1
  rw [if_pos hn] at h1
  omega
section
variable {ns : List ByteArray} {es : List Edge}
theorem RR_Rch (hx : SX ns) (hends : ∀ k, k < es.length → (el es k).1 ∈ ns ∧ (el es k).2.1 ∈ ns) {a b : Nat} (ha : a < ns.length) : RR (outN ns es) a b → Rch es [el ns a] (el ns b) ∧ b < ns.length := by
  intro h
  induction h with
  | refl => exact ⟨Rch.refl' _ _, ha⟩
  | step _ hc ih =>
    obtain ⟨k, hk, h1, rfl⟩ := outN_mem.1 hc
    refine ⟨?_, ixS_lt (hends k hk).2⟩
    have h2 := ih.1
    rw [← h1, ixS_el (hends k hk).1] at h2
    unfold tgt
    rw [ixS_el (hends k hk).2]
    exact .step (el_memE hk) h2
theorem Rch_RR (hx : SX ns) (hends : ∀ k, k < es.length → (el es k).1 ∈ ns ∧ (el es k).2.1 ∈ ns) {a b : ByteArray} (ha : a ∈ ns) (h : Rch es [a] b) : RR (outN ns es) (ixS ns a) (ixS ns b) ∧ b ∈ ns := by
  induction h with
  | here h1 => rw [List.mem_singleton] at h1; subst h1; exact ⟨.refl _, ha⟩
  | @step e he _ ih =>
    obtain ⟨k, hk, rfl⟩ := List.getElem_of_mem he
    rw [← el_eq hk] at ih ⊢
    exact ⟨.step ih.1 (outN_mem.2 ⟨k, hk, rfl, rfl⟩), (hends k hk).2⟩
end
/-- what is known of the parts that were found -/
structure Kn (ns : List ByteArray) (es : List Edge) (Pn : List Nat) (m : Nat) : Prop where
  sx : SX ns
  ends : ∀ k, k < es.length → (el es k).1 ∈ ns ∧ (el es k).2.1 ∈ ns
  k : Knotted ns.length (outN ns es) (fun u => ((el Pn u : Nat) : Int)) m
  len : Pn.length = ns.length
section
variable {ns : List ByteArray} {es : List Edge} {Pn : List Nat} {m : Nat}
def pF (ns : List ByteArray) (es : List Edge) (Pn : List Nat) (k : Nat) : Nat := el Pn (ixS ns (el es k).1)
def pT (ns : List ByteArray) (es : List Edge) (Pn : List Nat) (k : Nat) : Nat := el Pn (ixS ns (el es k).2.1)
theorem Kn.lt (h : Kn ns es Pn m) {u : Nat} (hu : u < ns.length) : el Pn u < m := by have := (h.k.pos u hu).2; omega
theorem Kn.pF_lt (h : Kn ns es Pn m) {k : Nat} (hk : k < es.length) : pF ns es Pn k < m := h.lt (ixS_lt (h.ends k hk).1)
theorem Kn.pT_lt (h : Kn ns es Pn m) {k : Nat} (hk : k < es.length) : pT ns es Pn k < m := h.lt (ixS_lt (h.ends k hk).2)
theorem Kn.le (h : Kn ns es Pn m) {k : Nat} (hk : k < es.length) : pT ns es Pn k ≤ pF ns es Pn k := by
  have := h.k.edge _ (ixS_lt (h.ends k hk).1) (tgt ns es k) (outN_mem.2 ⟨k, hk, rfl, rfl⟩)
  unfold pT pF; unfold tgt at this; omega
theorem Kn.same (h : Kn ns es Pn m) {a b : ByteArray} (ha : a ∈ ns) (hb : b ∈ ns) : el Pn (ixS ns a) = el Pn (ixS ns b) ↔ Rch es [a] b ∧ Rch es [b] a := by
  have h1 := h.k.scc _ _ (ixS_lt ha) (ixS_lt hb)
  constructor
  · intro e
    obtain ⟨r1, r2⟩ := h1.1 (by rw [e])
    have q1 := (RR_Rch h.sx h.ends (ixS_lt ha) r1).1
    have q2 := (RR_Rch h.sx h.ends (ixS_lt hb) r2).1
    rw [ixS_el ha, ixS_el hb] at q1 q2
    exact ⟨q1, q2⟩
  · rintro ⟨r1, r2⟩
    have := h1.2 ⟨(Rch_RR h.sx h.ends ha r1).1, (Rch_RR h.sx h.ends hb r2).1⟩
    omega
theorem Kn.negloop (h : Kn ns es Pn m) {k : Nat} (hk : k < es.length) (hn : (el es k).2.2 = true) (he : pF ns es Pn k = pT ns es Pn k) : NegLoop es :=
  ⟨_, el_memE hk, hn, ((h.same (h.ends k hk).1 (h.ends k hk).2).1 he).2⟩
theorem Kn.noloop (h : Kn ns es Pn m) (hno : ∀ k, k < es.length → (el es k).2.2 = true → pF ns es Pn k ≠ pT ns es Pn k) : ¬ NegLoop es := by
  rintro ⟨e, he, hn, hb⟩
  obtain ⟨k, hk, rfl⟩ := List.getElem_of_mem he
  rw [← el_eq hk] at hn hb
  exact hno k hk hn ((h.same (h.ends k hk).1 (h.ends k hk).2).2 ⟨Rch.one (el_memE hk), hb⟩)
end
/-- things dealt to places, in order -/
def grp {α : Type} (l : List (Nat × α)) (m : Nat) : List (List α) := (List.range m).map fun a => (l.filter fun x => decide (x.1 = a)).map (·.2)
theorem grp_len {α : Type} (l : List (Nat × α)) (m : Nat) : (grp l m).length = m := by simp [grp]
theorem grp_el {α : Type} {l : List (Nat × α)} {m a : Nat} (h : a < m) : el (grp l m) a = (l.filter fun x => decide (x.1 = a)).map (·.2) := by
  rw [el_eq (by rw [grp_len]; exact h)]; simp [grp]
theorem grp_nil {α : Type} (m : Nat) : grp ([] : List (Nat × α)) m = List.replicate m [] := by
  refine list_ext_el (by simp [grp]) fun i hi => ?_
  rw [grp_len] at hi
  rw [grp_el hi, el_replicate hi]; rfl
theorem grp_snoc {α : Type} {l : List (Nat × α)} {m a : Nat} (h : a < m) (x : α) : grp (l ++ [(a, x)]) m = (grp l m).set a (el (grp l m) a ++ [x]) := by
  refine list_ext_el (by simp [grp]) fun i hi => ?_
  rw [grp_len] at hi
  rw [grp_el hi]
  by_cases e : a = i
  · subst e
    rw [el_set_same (by rw [grp_len]; exact h), grp_el h]
    simp
  · rw [el_set_ne e, grp_el hi]
    simp [e]
theorem grp_row_le {α : Type} {l : List (Nat × α)} {m a : Nat} (h : a < m) : (el (grp l m) a).length ≤ l.length := by
  rw [grp_el h, List.length_map]; exact List.length_filter_le _ _
theorem grp_mem {α : Type} {l : List (Nat × α)} {m a : Nat} (h : a < m) {x : α} : x ∈ el (grp l m) a ↔ (a, x) ∈ l := by
  rw [grp_el h, List.mem_map]
  constructor
  · rintro ⟨⟨b, y⟩, h1, rfl⟩
    obtain ⟨h2, h3⟩ := List.mem_filter.1 h1
    have : b = a := by simpa using h3
    subst this; exact h2
  · intro h1
    exact ⟨(a, x), List.mem_filter.2 ⟨h1, by simp⟩, rfl⟩
/-- the first i numbers, each with its place -/
def zipI (f : Nat → Nat) (i : Nat) : List (Nat × Nat) := (List.range i).map fun k => (f k, k)
theorem zipI_succ (f : Nat → Nat) (i : Nat) : zipI f (i + 1) = zipI f i ++ [(f i, i)] := by simp [zipI, List.range_succ]
theorem zipI_len (f : Nat → Nat) (i : Nat) : (zipI f i).length = i := by simp [zipI]
theorem zipI_mem {f : Nat → Nat} {i a k : Nat} : (a, k) ∈ zipI f i ↔ k < i ∧ f k = a := by
  simp only [zipI, List.mem_map, List.mem_range, Prod.mk.injEq]
  constructor
  · rintro ⟨k', h, rfl, rfl⟩; exact ⟨h, rfl⟩
  · rintro ⟨h, rfl⟩; exact ⟨k, h, rfl, rfl⟩
theorem zip_row {f : Nat → Nat} {i m a k : Nat} (ha : a < m) : k ∈ el (grp (zipI f i) m) a ↔ k < i ∧ f k = a := by rw [grp_mem ha, zipI_mem]
theorem zip_row_el {f : Nat → Nat} {i m a j : Nat} (ha : a < m) (hj : j < (el (grp (zipI f i) m) a).length) : el (el (grp (zipI f i) m) a) j < i ∧ f (el (el (grp (zipI f i) m) a) j) = a := by
  have : el (el (grp (zipI f i) m) a) j ∈ el (grp (zipI f i) m) a := by rw [el_eq hj]; exact List.getElem_mem _
  exact (zip_row ha).1 this
theorem zip_row_le {f : Nat → Nat} {i m a : Nat} (ha : a < m) : (el (grp (zipI f i) m) a).length ≤ i := by have := grp_row_le (l := zipI f i) ha; rwa [zipI_len] at this
/-- what the raising keeps: parts below p are done, of part p the first j edges -/
structure LvI (ns : List ByteArray) (es : List Edge) (Pn : List Nat) (m p j : Nat) (lv : List Nat) : Prop where
  len : lv.length = m
  rule : ∀ k, k < es.length → (pF ns es Pn k < p ∨ (pF ns es Pn k = p ∧ k ∈ (el (grp (zipI (pF ns es Pn) es.length) m) p).take j)) → el lv (pT ns es Pn k) + ng (el es k) ≤ el lv (pF ns es Pn k)
  least : ∀ f, Rule es f → ∀ s ∈ ns, el lv (el Pn (ixS ns s)) ≤ f s
section
variable {ns : List ByteArray} {es : List Edge} {Pn : List Nat} {m p j : Nat} {lv : List Nat}
theorem LvI.start (m : Nat) (ns : List ByteArray) (es : List Edge) (Pn : List Nat) (hK : Kn ns es Pn m) : LvI ns es Pn m 0 0 (List.replicate m 0) := by
  refine ⟨by simp, fun k _ h => ?_, fun f _ s hs => ?_⟩
  · rcases h with h | ⟨_, h⟩
    · omega
    · simp at h
  · rw [el_replicate (hK.lt (ixS_lt hs))]; exact Nat.zero_le _
theorem LvI.nextp (h : LvI ns es Pn m p (el (grp (zipI (pF ns es Pn) es.length) m) p).length lv) (hp : p < m) : LvI ns es Pn m (p + 1) 0 lv := by
  refine ⟨h.len, fun k hk hc => h.rule k hk ?_, h.least⟩
  rcases hc with hc | ⟨_, hc⟩
  · by_cases e : pF ns es Pn k = p
    · exact .inr ⟨e, by rw [List.take_length]; exact (zip_row hp).2 ⟨hk, e⟩⟩
    · exact .inl (by omega)
  · simp at hc
theorem rule_part (hK : Kn ns es Pn m) (hno : ∀ k, k < es.length → (el es k).2.2 = true → pF ns es Pn k ≠ pT ns es Pn k) : Rule es fun s => el Pn (ixS ns s) := by
  intro e he
  obtain ⟨k, hk, rfl⟩ := List.getElem_of_mem he
  rw [← el_eq hk]
  have h1 := hK.le hk
  have h2 := hno k hk
  show pT ns es Pn k + ng (el es k) ≤ pF ns es Pn k
  unfold ng
  split
  · rename_i hn; have := h2 hn; omega
  · omega
theorem LvI.bnd (h : LvI ns es Pn m p j lv) (hK : Kn ns es Pn m) (hno : ∀ k, k < es.length → (el es k).2.2 = true → pF ns es Pn k ≠ pT ns es Pn k) {q : Nat} (hq : q < m) : el lv q ≤ q := by
  obtain ⟨u, hu, he⟩ := hK.k.use q hq
  have := h.least _ (rule_part hK hno) (el ns u) (el_memS hu)
  rw [ixS_of_el hK.sx hu] at this
  have he : el Pn u = q := by omega
  rwa [he] at this
theorem LvI.step (h : LvI ns es Pn m p j lv) (hK : Kn ns es Pn m) (hno : ∀ k, k < es.length → (el es k).2.2 = true → pF ns es Pn k ≠ pT ns es Pn k) (hp : p < m) (hj : j < (el (grp (zipI (pF ns es Pn) es.length) m) p).length)
    {k must : Nat} (hk : k = el (el (grp (zipI (pF ns es Pn) es.length) m) p) j) (hm : must = el lv (pT ns es Pn k) + ng (el es k)) : LvI ns es Pn m p (j + 1) (lv.set p (max (el lv p) must)) := by
  obtain ⟨hkl, hkp⟩ := zip_row_el hp hj
  rw [← hk] at hkl hkp
  have hpl : p < lv.length := by rw [h.len]; exact hp
  refine ⟨by rw [List.length_set]; exact h.len, fun k' hk' hc => ?_, fun f hf s hs => ?_⟩
  · have hle := hK.le hk'
    have hold : (pF ns es Pn k' < p ∨ (pF ns es Pn k' = p ∧ k' ∈ (el (grp (zipI (pF ns es Pn) es.length) m) p).take j)) → el (lv.set p (max (el lv p) must)) (pT ns es Pn k') + ng (el es k') ≤ el (lv.set p (max (el lv p) must)) (pF ns es Pn k') := by
      intro hc
      have hr := h.rule k' hk' hc
      by_cases e1 : p = pF ns es Pn k'
      · by_cases e2 : p = pT ns es Pn k'
        · rw [← e1, ← e2] at hr ⊢; omega
        · rw [el_set_ne e2, ← e1, el_set_same hpl]
          rw [← e1] at hr
          have := Nat.le_max_left (el lv p) must; omega
      · have e2 : p ≠ pT ns es Pn k' := by rcases hc with hc | hc <;> omega
        rw [el_set_ne e1, el_set_ne e2]; exact hr
    rcases hc with hc | ⟨hc1, hc2⟩
    · exact hold (.inl hc)
    · rw [take_succ_el hj, List.mem_append, List.mem_singleton] at hc2
      rcases hc2 with hc2 | hc2
      · exact hold (.inr ⟨hc1, hc2⟩)
      · rw [← hk] at hc2
        subst hc2
        have hng := hno k' hk'
        rw [hc1, el_set_same hpl]
        by_cases e2 : p = pT ns es Pn k'
        · rw [← e2, el_set_same hpl]
          have : ng (el es k') = 0 := by
            unfold ng
            split
            · rename_i hn; exact absurd (hc1.trans e2) (hng hn)
            · rfl
          omega
        · rw [el_set_ne e2, hm]
          exact Nat.le_max_right _ _
  · by_cases e : p = el Pn (ixS ns s)
    · rw [← e, el_set_same hpl]
      have h1 := h.least f hf s hs
      rw [← e] at h1
      refine Nat.max_le.2 ⟨h1, ?_⟩
      have hk1 := hK.ends k hkl
      have h2 := h.least f hf _ hk1.2
      have h3 := hf _ (el_memE hkl)
      have h4 := ((hK.same hs hk1.1).1 (e.symm.trans hkp.symm)).1
      have h5 := hf.down h4
      rw [hm]; unfold pT; omega
    · rw [el_set_ne e]; exact h.least f hf s hs
theorem LvI.done (h : LvI ns es Pn m m 0 lv) (hK : Kn ns es Pn m) : IsLev ns es fun s => el lv (el Pn (ixS ns s)) := by
  refine ⟨fun e he => ?_, h.least⟩
  obtain ⟨k, hk, rfl⟩ := List.getElem_of_mem he
  rw [← el_eq hk]
  exact h.rule k hk (.inl (hK.pF_lt hk))
end
theorem Fam.ptLt {α : Type} {enc : α → List Value} {w w' : World} {lo : Nat} {T : TypeId} {vs : List Value} {rows : List (List α)} {o : Obj} {b : Nat} (hf : Fam w.heap lo T enc vs rows) (hp : Pt w w' b o) (h : b < lo) : Fam w'.heap lo T enc vs rows :=
  hf.grown hp.grownBy fun i b' hi hb e => by have := ((hf.own i hi).lt hb).1; have := Option.some.inj e; omega
end Go.Proofs.Ytknfjgbipfpnjaa
