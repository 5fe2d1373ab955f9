/- Maps from texts to numbers that the call has made: what is in them, said by a set of keys and a function. -/
import Derived.Test.YtegpcbckiehleaaDoorSli
import Derived.Maps.RangeWalk
import Derived.Maps.OwnSet
import Derived.StringKeys
import Derived.WideKeyEntry
namespace Go.Eng
open Go.RowKit Go.Maps Go.WideMaps Go.ChangeMaps
theorem key_inj {a b : ByteArray} (h : Lit.string a.data.toList = Lit.string b.data.toList) : a = b := by
  injection h with h
  have : a.data = b.data := Array.ext' h
  cases a; cases b; simp_all
def OMap (P : Program) (k e : TypeId) (w : World) (b n : Nat) (ks : ByteArray → Prop) (f : ByteArray → Int) : Prop :=
  ∃ D : DataW Unit, w.ownsMap P k (plainElem P e) b n D ∧ (∀ s : ByteArray, s.size ≤ maxLen → (Maps.has D (.string s.data.toList) = true ↔ ks s)) ∧ ∀ s : ByteArray, s.size ≤ maxLen → ks s → D.atKey (.string s.data.toList) (.lit (.int .i64 0)) = .lit (.int .i64 (f s))
section
variable {P : Program} {t k e : TypeId} {w w' : World} {b n : Nat} {ks : ByteArray → Prop} {f : ByteArray → Int}
theorem OMap.made (w : World) (P : Program) (k e : TypeId) : OMap P k e (w.alloc (.map #[] 0)) w.heap.size 0 (fun _ => False) (fun _ => 0) :=
  ⟨.map [], World.ownsMap_made w P k _, fun s _ => by simp [Maps.has], fun s _ h => h.elim⟩
theorem OMap.kept {row : Option Nat} (h : OMap P k e w b n ks f) (hg : w.grownBy w' row) (hne : some b ≠ row) : OMap P k e w' b n ks f := let ⟨D, h1, h2, h3⟩ := h; ⟨D, h1.kept hg hne, h2, h3⟩
theorem OMap.lt (h : OMap P k e w b n ks f) : b < w.heap.size := let ⟨_, h1, _⟩ := h; h1.lt
theorem OMap.keep (h : OMap P k e w b n ks f) (hs : w.heap.size ≤ w'.heap.size) (hb : w'.heap[b]? = w.heap[b]?) : OMap P k e w' b n ks f := by
  obtain ⟨D, ⟨es, clock, hb0, r⟩, h2, h3⟩ := h
  exact ⟨D, ⟨es, clock, hb.trans hb0, r⟩, h2, h3⟩
theorem OMap.put (h : OMap P k e w b n ks f) (hk : P.underlying k = some .string) (he : P.underlying e = some (.int .i64)) (ht : P.underlying t = some (.map k e)) {s : ByteArray} (hs : s.size ≤ maxLen) {v : Int} (hv : (Lit.int .i64 v).wf = true) (hn : n < maxLen) :
    ∃ w', (Instr.mapUpdate t (.map (some b)) (.string s) (.int .i64 v)).run P w = .ok () w' ∧ OMap P k e w' b (n + 1) (fun x => x = s ∨ ks x) (fun x => if x = s then v else f x) ∧ w.grownBy w' (some b) := by
  obtain ⟨D, h1, h2, h3⟩ := h
  have K := string_keyed (P := P) hk
  have hkey := keyOf_string_mk (P := P) hk hs
  obtain ⟨w', hr, ho, hg⟩ := h1.update K ht hn hkey (plainElem_int (H := Unit) he hv)
  refine ⟨w', hr, ⟨_, ho, fun x hx => ?_, fun x hx hx2 => ?_⟩, hg⟩
  · by_cases hxs : x = s
    · subst hxs
      rw [has_put_same h1.isMap (K.key hkey)]; simp
    · rw [has_put_other (fun e => hxs (key_inj e)), h2 x hx]
      simp [hxs]
  · by_cases hxs : x = s
    · subst hxs
      rw [atKey_put_same h1.isMap (K.key hkey)]; dsimp only; rw [if_pos rfl]
    · rw [atKey_put_other (fun e => hxs (key_inj e))]; dsimp only; rw [if_neg hxs]
      exact h3 x hx (hx2.resolve_left hxs)
theorem OMap.get (h : OMap P k e w b n ks f) (hk : P.underlying k = some .string) (he : P.underlying e = some (.int .i64)) (ht : P.underlying t = some (.map k e)) (hz : (zeroValue e).run P w = .ok (.int .i64 0) w) {s : ByteArray} (hs : s.size ≤ maxLen) (hks : ks s) :
    (Instr.lookup t (.map (some b)) (.string s) false).run P w = .ok (.int .i64 (f s)) w := by
  obtain ⟨D, h1, h2, h3⟩ := h
  obtain ⟨c, hr, ha, _⟩ := h1.lookup_int (string_keyed hk) ht he hz (keyOf_string_mk hk hs)
  rw [h3 s hs hks] at ha
  injection ha with ha
  injection ha with _ ha
  rw [ha]; exact hr

theorem OMap.block (h : OMap P k e w b n ks f) (hb : w'.heap[b]? = w.heap[b]?) : OMap P k e w' b n ks f := by
  obtain ⟨D, ⟨es, clock, hb0, r⟩, h2, h3⟩ := h
  exact ⟨D, ⟨es, clock, hb.trans hb0, r⟩, h2, h3⟩
/-- an entry that is held, and not yet written -/
def Pend (P : Program) (t k e : TypeId) (w : World) (b n : Nat) (st : Nat) (s : ByteArray) (ks : ByteArray → Prop) (f : ByteArray → Int) : Prop :=
  ∃ es1 clock1, w.heap[b]? = some (.map es1 clock1) ∧ ∀ (w2 : World) (v : Int), (Lit.int .i64 v).wf = true → w2.heap[b]? = some (.map es1 clock1) →
    ∃ w3, (Instr.entryStore t (.map (some b)) (goInt st) (.int .i64 v)).run P w2 = .ok () w3 ∧ OMap P k e w3 b (n + 1) (fun x => x = s ∨ ks x) (fun x => if x = s then v else f x) ∧ w2.grownBy w3 (some b)
theorem grown_set {b : Nat} {es : Array MapEntry} {clock : Nat} {o' : Obj} (hb : w.heap[b]? = some (.map es clock)) : w.grownBy (setBlock w b o') (some b) := ⟨rfl, rfl, rfl, by simp [setBlock], fun i _ hi => heap_setBlock_other hb _ (fun e => hi (by rw [e]))⟩
theorem OMap.entry (h : OMap P k e w b n ks f) (hk : P.underlying k = some .string) (he : P.underlying e = some (.int .i64)) (ht : P.underlying t = some (.map k e)) (hz : ∀ u : World, (zeroValue e).run P u = .ok (.int .i64 0) u) {s : ByteArray} (hs : s.size ≤ maxLen) (hn : n < maxLen) :
    ∃ (v0 : Value) (st : Nat) (w1 : World), (Instr.mapEntry t (.map (some b)) (.string s)).run P w = .ok (.tuple #[v0, goInt st]) w1 ∧ w.grownBy w1 (some b) ∧ Pend P t k e w1 b n st s ks f := by
  have h0 := h
  obtain ⟨D, ⟨es, clock, hb, F, r⟩, h2, h3⟩ := h
  obtain ⟨v0, st, es1, clock1, hr, _, hst⟩ := Go.WideElems.entry_then_store (string_law (P := P) hk) ht hz hb F (keyOf_string_mk hk hs)
  refine ⟨v0, st, _, hr, grown_set hb, es1, clock1, heap_setBlock_same hb _, fun w2 v hv hw2 => ?_⟩
  obtain ⟨es', clock', hr2, hu⟩ := hst w2 (.int .i64 v) hw2
  obtain ⟨w', hr3, ho, _⟩ := h0.put hk he ht hs hv hn
  rw [hu] at hr3
  injection hr3 with _ e2
  subst e2
  refine ⟨_, hr2, ho.block ?_, grown_set hw2⟩
  rw [heap_setBlock_same hw2, heap_setBlock_same hb]
end
section
variable {P : Program} {n : Nat} {σ : Nat → Value} {w : World} {ty t k e : TypeId} {K : Value → World → Prop} {m x v : Operand} {b c : Nat} {ks : ByteArray → Prop} {f : ByteArray → Int}
theorem e_makeMap (kk : ∀ w', Al w w' (.map #[] 0) → K (.map (some w.heap.size)) w') : Eff P (ev n σ) w (.makeMap t none) ty K := by
  refine ⟨_, _, kk (w.alloc (.map #[] 0)) ⟨rfl⟩, .inl fun _ _ _ _ => ?_⟩
  simp [execOp, run_makeMap]
theorem e_mapUpdate {s : ByteArray} {a : Int} (hm : ev n σ m = .map (some b)) (hx : ev n σ x = .string s) (hv : ev n σ v = .int .i64 a) (hk : P.underlying k = some .string) (he : P.underlying e = some (.int .i64)) (ht : P.underlying t = some (.map k e)) (h : OMap P k e w b c ks f) (hs : s.size ≤ maxLen) (ha : (Lit.int .i64 a).wf = true) (hc : c < maxLen)
    (kk : ∀ w', OMap P k e w' b (c + 1) (fun x => x = s ∨ ks x) (fun x => if x = s then a else f x) → w.grownBy w' (some b) → K undef w') : Eff P (ev n σ) w (.mapUpdate t m x v) ty K := by
  obtain ⟨w', hr, ho, hg⟩ := h.put hk he ht hs ha hc
  refine ⟨undef, w', kk w' ho hg, .inr ⟨rfl, fun _ _ _ _ => ?_⟩⟩
  simp [execOp, hm, hx, hv, hr]
theorem x_lookupM {s : ByteArray} (hm : ev n σ m = .map (some b)) (hx : ev n σ x = .string s) (hk : P.underlying k = some .string) (he : P.underlying e = some (.int .i64)) (ht : P.underlying t = some (.map k e)) (hz : ∀ u : World, (zeroValue e).run P u = .ok (.int .i64 0) u) (h : OMap P k e w b c ks f) (hs : s.size ≤ maxLen) (hks : ks s) :
    Ex P (ev n σ) w (.lookup t m x false) ty (.int .i64 (f s)) := by
  intro _ _ _ _
  simp [execOp, hm, hx, h.get hk he ht (hz w) hs hks]
theorem e_mapEntry {s : ByteArray} (hm : ev n σ m = .map (some b)) (hx : ev n σ x = .string s) (hk : P.underlying k = some .string) (he : P.underlying e = some (.int .i64)) (ht : P.underlying t = some (.map k e)) (hz : ∀ u : World, (zeroValue e).run P u = .ok (.int .i64 0) u) (h : OMap P k e w b c ks f) (hs : s.size ≤ maxLen) (hc : c < maxLen)
    (kk : ∀ (v0 : Value) (st : Nat) w', w.grownBy w' (some b) → Pend P t k e w' b c st s ks f → K (.tuple #[v0, goInt st]) w') : Eff P (ev n σ) w (.mapEntry t m x) ty K := by
  obtain ⟨v0, st, w', hr, hg, hp⟩ := h.entry hk he ht hz hs hc
  refine ⟨_, w', kk v0 st w' hg hp, .inl fun _ _ _ _ => ?_⟩
  simp [execOp, hm, hx, hr]
theorem e_entryStore {s : ByteArray} {st : Nat} {a : Int} {y : Operand} (hm : ev n σ m = .map (some b)) (hx : ev n σ x = goInt st) (hv : ev n σ y = .int .i64 a) (h : Pend P t k e w b c st s ks f) (ha : (Lit.int .i64 a).wf = true)
    (kk : ∀ w', OMap P k e w' b (c + 1) (fun x => x = s ∨ ks x) (fun x => if x = s then a else f x) → w.grownBy w' (some b) → K undef w') : Eff P (ev n σ) w (.entryStore t m x y) ty K := by
  obtain ⟨es1, clock1, hb, hst⟩ := h
  obtain ⟨w', hr, ho, hg⟩ := hst w a ha hb
  refine ⟨undef, w', kk w' ho hg, .inr ⟨rfl, fun _ _ _ _ => ?_⟩⟩
  simp [execOp, hm, hx, hv, hr]

end
theorem keyOf_string_inv {P : Program} {k : TypeId} (hk : P.underlying k = some .string) {key : Value} {kl : Lit} (h : keyOf P k key = some kl) : ∃ s : ByteArray, key = .string s ∧ kl = .string s.data.toList ∧ s.size ≤ maxLen := by
  cases key <;> simp [keyOf, hk, mapKey] at h
  obtain ⟨h1, rfl⟩ := h
  exact ⟨_, rfl, rfl, h1⟩
def ORange (P : Program) (k e : TypeId) (w : World) (b r n : Nat) (ks : ByteArray → Prop) (f : ByteArray → Int) (left : ByteArray → Prop) (cnt : Nat) : Prop :=
  ∃ (D : DataW Unit) (lf : Lit → Bool), w.ranges P k (plainElem P e) b r n D lf cnt ∧ (∀ s : ByteArray, s.size ≤ maxLen → (Maps.has D (.string s.data.toList) = true ↔ ks s)) ∧ (∀ s : ByteArray, s.size ≤ maxLen → ks s → D.atKey (.string s.data.toList) (.lit (.int .i64 0)) = .lit (.int .i64 (f s))) ∧
    (∀ s : ByteArray, s.size ≤ maxLen → (lf (.string s.data.toList) = true ↔ left s)) ∧ ∀ s, left s → ks s
theorem ORange.map {P : Program} {k e : TypeId} {w : World} {b r n cnt : Nat} {ks left : ByteArray → Prop} {f : ByteArray → Int} (h : ORange P k e w b r n ks f left cnt) : OMap P k e w b n ks f := let ⟨D, _, h1, h2, h3, _⟩ := h; ⟨D, h1.owns, h2, h3⟩
theorem ORange.kept {P : Program} {k e : TypeId} {w w' : World} {b r n cnt : Nat} {ks left : ByteArray → Prop} {f : ByteArray → Int} {row : Option Nat} (h : ORange P k e w b r n ks f left cnt) (hg : w.grownBy w' row) (h1 : some b ≠ row) (h2 : some r ≠ row) : ORange P k e w' b r n ks f left cnt := let ⟨D, lf, a, c⟩ := h; ⟨D, lf, a.kept hg h1 h2, c⟩
theorem ORange.ne {P : Program} {k e : TypeId} {w : World} {b r n cnt : Nat} {ks left : ByteArray → Prop} {f : ByteArray → Int} (h : ORange P k e w b r n ks f left cnt) : r ≠ b := let ⟨_, _, a, _⟩ := h; a.ne
theorem ORange.lt {P : Program} {k e : TypeId} {w : World} {b r n cnt : Nat} {ks left : ByteArray → Prop} {f : ByteArray → Int} (h : ORange P k e w b r n ks f left cnt) : r < w.heap.size := let ⟨_, _, a, _⟩ := h; a.lt
section
variable {P : Program} {n : Nat} {σ : Nat → Value} {w : World} {ty t k e : TypeId} {K : Value → World → Prop} {m x : Operand} {b c r cnt : Nat} {ks left : ByteArray → Prop} {f : ByteArray → Int}
theorem e_range (hm : ev n σ m = .map (some b)) (hk : P.underlying k = some .string) (ht : P.underlying t = some (.map k e)) (h : OMap P k e w b c ks f) (hks : ∀ s, ks s → s.size ≤ maxLen)
    (kk : ∀ w' cnt, ORange P k e w' b w.heap.size c ks f ks cnt → w.grownBy w' none → w'.heap.size = w.heap.size + 1 → K (.pointer (some ⟨w.heap.size, 0, none⟩)) w') : Eff P (ev n σ) w (.range t m) ty K := by
  obtain ⟨D, h1, h2, h3⟩ := h
  obtain ⟨w', hr, ho, hg, hs⟩ := h1.range (string_keyed hk) ht
  refine ⟨_, w', kk w' _ ⟨D, _, ho, h2, h3, h2, fun s hs => hs⟩ hg hs, .inl fun _ _ _ _ => ?_⟩
  simp [execOp, hm, hr]
theorem e_next (hx : ev n σ x = .pointer (some ⟨r, 0, none⟩)) (hk : P.underlying k = some .string) (he : P.underlying e = some (.int .i64)) (h : ORange P k e w b r c ks f left cnt) (hks : ∀ s, ks s → s.size ≤ maxLen)
    (kk0 : (∀ s, ¬ left s) → K (.tuple #[.bool false]) w)
    (kk1 : ∀ (s : ByteArray) (w' : World) (cnt' : Nat), s.size ≤ maxLen → left s → ORange P k e w' b r c ks f (fun z => left z ∧ z ≠ s) cnt' → cnt' < cnt → w.grownBy w' (some r) → w'.heap.size = w.heap.size →
      (Instr.entry (.pointer (some ⟨r, 0, none⟩))).run P w' = .ok (.tuple #[.string s, .int .i64 (f s)]) w' → K (.tuple #[.bool true, .string s, .int .i64 (f s)]) w') : Eff P (ev n σ) w (.next x false) ty K := by
  obtain ⟨D, lf, h1, h2, h3, h4, h5⟩ := h
  rcases h1.next (string_keyed hk) ty with ⟨_, hl, hr⟩ | ⟨key, v, kl, y, w', cnt', hkey, hl, hv, hat, hr, ho, hlt, hg, hs, hen⟩
  · refine ⟨_, w, kk0 fun s hls => ?_, .inl fun _ _ _ _ => ?_⟩
    · have := (h4 s (hks s (h5 s hls))).2 hls
      rw [hl] at this; cases this
    · simp [execOp, hx, hr]
  · obtain ⟨s, rfl, rfl, hsz⟩ := keyOf_string_inv hk hkey
    obtain ⟨a, rfl, hy, _⟩ := plainElem_int_inv he hv
    have hls := (h4 s hsz).1 hl
    have hfa := h3 s hsz (h5 s hls)
    rw [hat, hy] at hfa
    injection hfa with hfa
    injection hfa with _ hfa
    subst hfa
    refine ⟨_, w', kk1 s w' cnt' hsz hls ⟨D, _, ho, h2, h3, fun z hz => ?_, fun z hz => h5 z hz.1⟩ hlt hg hs hen, .inl fun _ _ _ _ => ?_⟩
    · simp only [Bool.and_eq_true, Bool.not_eq_true']
      rw [h4 z hz]
      constructor
      · rintro ⟨q1, q2⟩
        refine ⟨q1, fun e => ?_⟩
        subst e
        rw [WideAt.sameKey_self ((string_keyed hk).key hkey)] at q2; cases q2
      · rintro ⟨q1, q2⟩
        exact ⟨q1, sameKey_ne fun e => q2 (key_inj e)⟩
    · simp [execOp, hx, hr]
theorem x_entry {v : Value} (hx : ev n σ x = .pointer (some ⟨r, 0, none⟩)) (h : (Instr.entry (.pointer (some ⟨r, 0, none⟩))).run P w = .ok v w) : Ex P (ev n σ) w (.entry x) ty v := by
  intro _ _ _ _
  simp [execOp, hx, h]
end
section
variable {P : Program} {k e : TypeId} {w w' : World} {b n : Nat} {ks ks' : ByteArray → Prop} {f f' : ByteArray → Int}
theorem OMap.al (h : Al w w' (.map #[] 0)) : OMap P k e w' w.heap.size 0 (fun _ => False) (fun _ => 0) := by rw [h.eq]; exact OMap.made w P k e
theorem OMap.congr (h : OMap P k e w b n ks f) (h1 : ∀ x, ks x ↔ ks' x) (h2 : ∀ x, ks x → f x = f' x) {n' : Nat} (hn : n ≤ n') : OMap P k e w b n' ks' f' := by
  obtain ⟨D, a1, a2, a3⟩ := h
  exact ⟨D, a1.mono hn, fun s hs => (a2 s hs).trans (h1 s), fun s hs hk => by rw [a3 s hs ((h1 s).2 hk), h2 s ((h1 s).2 hk)]⟩
theorem OMap.ext (h : OMap P k e w b n ks f) (hx : Ext w w') : OMap P k e w' b n ks f := h.block (hx.block _ h.lt)
theorem OMap.neB (h : OMap P k e w b n ks f) {b' : Nat} {cs : List Value} {T : TypeId} (hb : Blk w.heap b' cs T) : b ≠ b' := by
  obtain ⟨_, ⟨es, clock, hb0, _⟩, _⟩ := h
  rintro rfl
  have := hb0.symm.trans hb
  cases this
theorem OMap.neO (h : OMap P k e w b n ks f) {lo : Nat} {T : TypeId} {kk m : Nat} {v : Value} {cs : List Value} (ho : Own w.heap lo T kk v m cs) : v.ownBlock ≠ some b := by
  intro hv
  obtain ⟨_, ⟨rfl, _⟩ | ⟨b2, c2, R2, rfl, _, hB2, _⟩⟩ := ho
  · simp [Value.ownBlock] at hv
  · simp only [Value.ownBlock, Option.some.injEq] at hv
    subst hv
    exact h.neB hB2 rfl
theorem OMap.pt {o : Obj} {b' : Nat} {cs : List Value} {T : TypeId} (h : OMap P k e w b n ks f) (hp : Pt w w' b' o) (hb : Blk w.heap b' cs T) : OMap P k e w' b n ks f := h.block (hp.old (h.neB hb))
theorem OMap.grownT {row : Value} {lo : Nat} {T : TypeId} {kk m : Nat} {cs : List Value} (h : OMap P k e w b n ks f) (hg : w.grownBy w' row.ownBlock) (ho : Own w.heap lo T kk row m cs) : OMap P k e w' b n ks f := h.kept hg (Ne.symm (h.neO ho))
theorem Pend.blk {t : TypeId} {st : Nat} {s : ByteArray} (h : Pend P t k e w b n st s ks f) {b' : Nat} {cs : List Value} {T : TypeId} (hb : Blk w.heap b' cs T) : b ≠ b' := by
  obtain ⟨es, clock, hb0, _⟩ := h
  rintro rfl
  have := hb0.symm.trans hb
  cases this
end
end Go.Eng
