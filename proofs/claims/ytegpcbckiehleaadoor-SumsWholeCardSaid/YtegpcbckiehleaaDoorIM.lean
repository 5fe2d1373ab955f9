/- Sets of numbers, as maps to bool that the call has made. Seat-free. -/
import Derived.Test.YtegpcbckiehleaaDoorGM
namespace Go.Eng
open Go.RowKit Go.Maps Go.WideMaps Go.ChangeMaps
def IMap (P : Program) (k e : TypeId) (w : World) (b n : Nat) (f : Int → Bool) : Prop :=
  ∃ D : DataW Unit, w.ownsMap P k (plainElem P e) b n D ∧ ∀ a : Int, (Lit.int .i64 a).wf = true → D.atKey (.int .i64 a) (.lit (.bool false)) = .lit (.bool (f a))
section
variable {P : Program} {t k e : TypeId} {w w' : World} {b n : Nat} {f : Int → Bool}
theorem IMap.made (w : World) (P : Program) (k e : TypeId) : IMap P k e (w.alloc (.map #[] 0)) w.heap.size 0 (fun _ => false) :=
  ⟨.map [], World.ownsMap_made w P k _, fun _ _ => rfl⟩
theorem IMap.al (h : Al w w' (.map #[] 0)) : IMap P k e w' w.heap.size 0 (fun _ => false) := by rw [h.eq]; exact IMap.made w P k e
theorem IMap.lt (h : IMap P k e w b n f) : b < w.heap.size := let ⟨_, h1, _⟩ := h; h1.lt
theorem IMap.block (h : IMap P k e w b n f) (hb : w'.heap[b]? = w.heap[b]?) : IMap P k e w' b n f := by
  obtain ⟨D, ⟨es, clock, hb0, r⟩, h2⟩ := h
  exact ⟨D, ⟨es, clock, hb.trans hb0, r⟩, h2⟩
theorem IMap.ext (h : IMap P k e w b n f) (hx : Ext w w') : IMap P k e w' b n f := h.block (hx.block _ h.lt)
theorem IMap.put (h : IMap P k e w b n f) (hk : P.underlying k = some (.int .i64)) (he : P.underlying e = some .bool) (ht : P.underlying t = some (.map k e)) {a : Int} (ha : (Lit.int .i64 a).wf = true) (v : Bool) (hn : n < maxLen) :
    ∃ w', (Instr.mapUpdate t (.map (some b)) (.int .i64 a) (.bool v)).run P w = .ok () w' ∧ IMap P k e w' b (n + 1) (fun x => if x = a then v else f x) ∧ w.grownBy w' (some b) := by
  obtain ⟨D, h1, h2⟩ := h
  have K := int_keyed (P := P) hk
  have hkey := keyOf_int_mk (P := P) hk ha
  obtain ⟨w', hr, ho, hg⟩ := h1.update K ht hn hkey (plainElem_bool (H := Unit) he v)
  refine ⟨w', hr, ⟨_, ho, fun x hx => ?_⟩, hg⟩
  by_cases hxs : x = a
  · subst hxs
    rw [atKey_put_same h1.isMap (K.key hkey)]; dsimp only; rw [if_pos rfl]
  · rw [atKey_put_other (fun e => by injection e with _ e; exact hxs e)]; dsimp only; rw [if_neg hxs]
    exact h2 x hx
theorem IMap.get (h : IMap P k e w b n f) (hk : P.underlying k = some (.int .i64)) (he : P.underlying e = some .bool) (ht : P.underlying t = some (.map k e)) (hz : (zeroValue e).run P w = .ok (.bool false) w) {a : Int} (ha : (Lit.int .i64 a).wf = true) :
    (Instr.lookup t (.map (some b)) (.int .i64 a) false).run P w = .ok (.bool (f a)) w := by
  obtain ⟨D, h1, h2⟩ := h
  obtain ⟨v, ps, hr, hv⟩ := h1.lookup (int_keyed hk) ht hz (plainElem_bool he false) (keyOf_int_mk hk ha)
  rw [h2 a ha] at hv
  have : v = .bool (f a) := by
    unfold plainElem at hv
    rw [he] at hv
    cases v <;> simp at hv
    rw [hv.1]
  rw [this] at hr; exact hr
end
section
variable {P : Program} {n : Nat} {σ : Nat → Value} {w : World} {ty t k e : TypeId} {K : Value → World → Prop} {m x v : Operand} {b c : Nat} {f : Int → Bool}
theorem e_mapUpdateI {a : Int} {z : Bool} (hm : ev n σ m = .map (some b)) (hx : ev n σ x = .int .i64 a) (hv : ev n σ v = .bool z) (hk : P.underlying k = some (.int .i64)) (he : P.underlying e = some .bool) (ht : P.underlying t = some (.map k e)) (h : IMap P k e w b c f) (ha : (Lit.int .i64 a).wf = true) (hc : c < maxLen)
    (kk : ∀ w', IMap P k e w' b (c + 1) (fun x => if x = a then z else f x) → w.grownBy w' (some b) → K undef w') : Eff P (ev n σ) w (.mapUpdate t m x v) ty K := by
  obtain ⟨w', hr, ho, hg⟩ := h.put hk he ht ha z hc
  refine ⟨undef, w', kk w' ho hg, .inr ⟨rfl, fun _ _ _ _ => ?_⟩⟩
  simp [execOp, hm, hx, hv, hr]
theorem x_lookupI {a : Int} (hm : ev n σ m = .map (some b)) (hx : ev n σ x = .int .i64 a) (hk : P.underlying k = some (.int .i64)) (he : P.underlying e = some .bool) (ht : P.underlying t = some (.map k e)) (hz : ∀ u : World, (zeroValue e).run P u = .ok (.bool false) u) (h : IMap P k e w b c f) (ha : (Lit.int .i64 a).wf = true) :
    Ex P (ev n σ) w (.lookup t m x false) ty (.bool (f a)) := by
  intro _ _ _ _
  simp [execOp, hm, hx, h.get hk he ht (hz w) ha]
end
end Go.Eng
