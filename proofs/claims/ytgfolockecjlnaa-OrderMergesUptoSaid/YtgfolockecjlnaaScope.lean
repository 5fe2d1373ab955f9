import Derived.Test.YtgfolockecjlnaaSli
import Derived.ScopeJumps
namespace Go.Eng
open Go.RowKit
section
variable {P : Program} {Q : Exit → Act → World → Prop} {n : Nat} {σ : Nat → Value} {ds : List Deferred} {w : World}
theorem scopeJ {c rest : Code} {l : Nat} {α : Type} (V : α → List (Nat × Value)) (Inv : α → World → Prop) (μ : α → Nat) (hf : findLabel c l = some rest) {a : Act}
    (first : c.wp P (Exit.jump l (fun a' w' => ∃ σ' x', a' = F n σ' ds ∧ Has σ' (V x') ∧ Inv x' w') Q) a w)
    (pass : ∀ τ x w, Inv x w → rest.wp P (Exit.jump l (fun a' w' => ∃ σ' x', a' = F n σ' ds ∧ Has σ' (V x') ∧ Inv x' w' ∧ μ x' < μ x) Q) (F n (ups (V x) τ) ds) w) : (Code.scope c).wp P Q a w := by
  intro b k cs
  have hg : gotoIn l (.inScope c :: k) = some (.code rest :: .inScope c :: k) := by simp [gotoIn, hf]
  have key : ∀ m σ x w, μ x = m → Has σ (V x) → Inv x w → ∃ e a' w', Q e a' w' ∧ Arrives P (lone (b.at (F n σ ds) (.code rest :: .inScope c :: k)) cs w) b k cs e a' w' := by
    intro m
    induction m using Nat.strongRecOn with
    | _ m ih =>
      intro σ x w hm hV hI
      have hp := pass σ x w hI
      rw [ups_self hV] at hp
      obtain ⟨e, a₁, w₁, hq, harr⟩ := hp b (.inScope c :: k) cs
      cases e with
      | normal => exact ⟨.normal, a₁, w₁, hq, Steps.trans harr (.one step_inScope)⟩
      | exit id => exact ⟨.exit id, a₁, w₁, hq, fun k' hk => harr k' (by simp [exitTo, hk])⟩
      | goto l' =>
        obtain ⟨rfl, σ', x', rfl, hV', hI', hlt⟩ := hq
        obtain ⟨e₂, a₂, w₂, hq₂, harr₂⟩ := ih _ (by omega) σ' x' w₁ rfl hV' hI'
        exact ⟨e₂, a₂, w₂, hq₂, .of_steps (harr _ hg) harr₂⟩
      | ret => exact ⟨_, a₁, w₁, hq, harr⟩
      | panic ch => exact ⟨_, a₁, w₁, hq, harr⟩
      | outgrown => exact ⟨_, a₁, w₁, hq, harr⟩
  obtain ⟨e, a₁, w₁, hq, harr⟩ := first b (.inScope c :: k) cs
  cases e with
  | normal => exact ⟨.normal, a₁, w₁, hq, .head step_scope (Steps.trans harr (.one step_inScope))⟩
  | exit id => exact ⟨.exit id, a₁, w₁, hq, fun k' hk => .head step_scope (harr k' (by simp [exitTo, hk]))⟩
  | goto l' =>
    obtain ⟨rfl, σ', x', rfl, hV', hI'⟩ := hq
    obtain ⟨e₂, a₂, w₂, hq₂, harr₂⟩ := key _ σ' x' w₁ rfl hV' hI'
    exact ⟨e₂, a₂, w₂, hq₂, .of_steps (.head step_scope (harr _ hg)) harr₂⟩
  | ret => exact ⟨_, a₁, w₁, hq, .of_steps (.one step_scope) harr⟩
  | panic ch => exact ⟨_, a₁, w₁, hq, .of_steps (.one step_scope) harr⟩
  | outgrown => exact ⟨_, a₁, w₁, hq, .of_steps (.one step_scope) harr⟩
theorem gotoS {l : Nat} {a : Act} (h : Q (.goto l) a w) : (Code.goto l).wp P Q a w := wp_goto h
/-- in a scope: what stands behind, under a name; a goto goes by too -/
theorem seqG {x y : Code} {a : Act} (h : ∀ Q' : Exit → Act → World → Prop, (∀ a w, y.wp P Q a w → Q' .normal a w) → (∀ a w, Q .ret a w → Q' .ret a w) → (∀ id a w, Q (.exit id) a w → Q' (.exit id) a w) → (∀ id a w, Q (.goto id) a w → Q' (.goto id) a w) → x.wp P Q' a w) : (Code.seq x y).wp P Q a w :=
  wp_seq (h _ (fun _ _ h => h) (fun _ _ h => h) (fun _ _ _ h => h) (fun _ _ _ h => h))
/-- a scope whose label stands behind two parts, to which the run jumps back -/
theorem scopeK {x y R : Code} {l : Nat} {α : Type} (V : α → List (Nat × Value)) (Inv : α → World → Prop) (μ : α → Nat) (hx : findLabel x l = none) (hy : findLabel y l = none) {a : Act}
    (pre : ∀ (Z : Code) (Q' : Exit → Act → World → Prop), (∀ σ' x' w', Has σ' (V x') → Inv x' w' → Z.wp P Q' (F n σ' ds) w') → (∀ a w, Q .ret a w → Q' .ret a w) → (∀ id a w, Q (.exit id) a w → Q' (.exit id) a w) → (Code.seq x (.seq y Z)).wp P Q' a w)
    (pass : ∀ τ x w, Inv x w → ∀ Q' : Exit → Act → World → Prop, (∀ σ' x' w', Has σ' (V x') → Inv x' w' → μ x' < μ x → Q' (.goto l) (F n σ' ds) w') → (∀ a w, Q .normal a w → Q' .normal a w) → (∀ a w, Q .ret a w → Q' .ret a w) → (∀ id a w, Q (.exit id) a w → Q' (.exit id) a w) → R.wp P Q' (F n (ups (V x) τ) ds) w) :
    (Code.scope (.seq x (.seq y (.seq (.label l) R)))).wp P Q a w := by
  have hf : findLabel (.seq x (.seq y (.seq (.label l) R))) l = some (.seq .skip R) := by simp [findLabel, hx, hy]
  refine scopeJ (n := n) (ds := ds) V Inv μ hf ?_ ?_
  · refine pre _ _ ?_ (fun _ _ h => h) (fun _ _ _ h => h)
    intro σ' x' w' hV hI
    refine wp_seq (wp_label ?_)
    have h3 := pass σ' x' w' hI (Exit.jump l (fun a' w' => ∃ σ' x', a' = F n σ' ds ∧ Has σ' (V x') ∧ Inv x' w') Q) (fun σ'' x'' _ h1 h2 _ => ⟨rfl, σ'', x'', rfl, h1, h2⟩) (fun _ _ h => h) (fun _ _ h => h) (fun _ _ _ h => h)
    rw [ups_self hV] at h3
    exact h3
  · intro τ x w hI
    refine wp_seq (wp_skip ?_)
    exact pass τ x w hI _ (fun σ'' x'' _ h1 h2 h3 => ⟨rfl, σ'', x'', rfl, h1, h2, h3⟩) (fun _ _ h => h) (fun _ _ h => h) (fun _ _ _ h => h)
end
end Go.Eng
