/- A scope with three labels, each of which the run may jump to. -/
import Derived.Test.YtknfjgbipfpnjaaSli
import Derived.ScopeJumps
namespace Go.Eng
open Go.RowKit
def jumpN (J : Nat → Act → World → Prop) (Q : Exit → Act → World → Prop) : Exit → Act → World → Prop
  | .goto l, a, w => J l a w
  | e, a, w => Q e a w
section
variable {P : Program} {Q : Exit → Act → World → Prop} {n : Nat} {σ : Nat → Value} {ds : List Deferred} {w : World}
theorem scopeJN {c : Code} {R : Nat → Code} {α : Type} (V : α → List (Nat × Value)) (Inv : Nat → α → World → Prop) (μ : α → Nat) (hf : ∀ l, l < 3 → findLabel c l = some (R l)) {a : Act}
    (first : c.wp P (jumpN (fun l a' w' => l < 3 ∧ ∃ σ' x', a' = F n σ' ds ∧ Has σ' (V x') ∧ Inv l x' w') Q) a w)
    (pass : ∀ l, l < 3 → ∀ σ x w, Has σ (V x) → Inv l x w → (R l).wp P (jumpN (fun l a' w' => l < 3 ∧ ∃ σ' x', a' = F n σ' ds ∧ Has σ' (V x') ∧ Inv l x' w' ∧ μ x' < μ x) Q) (F n σ ds) w) : (Code.scope c).wp P Q a w := by
  intro b k cs
  have hg : ∀ l, l < 3 → gotoIn l (.inScope c :: k) = some (.code (R l) :: .inScope c :: k) := fun l hl => by simp [gotoIn, hf l hl]
  have key : ∀ m l σ x w, l < 3 → μ x = m → Has σ (V x) → Inv l x w → ∃ e a' w', Q e a' w' ∧ Arrives P (lone (b.at (F n σ ds) (.code (R l) :: .inScope c :: k)) cs w) b k cs e a' w' := by
    intro m
    induction m using Nat.strongRecOn with
    | _ m ih =>
      intro l σ x w hl hm hV hI
      have hp := pass l hl σ x w hV hI
      obtain ⟨e, a₁, w₁, hq, harr⟩ := hp b (.inScope c :: k) cs
      cases e with
      | normal => exact ⟨.normal, a₁, w₁, hq, Steps.trans harr (.one step_inScope)⟩
      | exit id => exact ⟨.exit id, a₁, w₁, hq, fun k' hk => harr k' (by simp [exitTo, hk])⟩
      | goto l' =>
        obtain ⟨hl', σ', x', rfl, hV', hI', hlt⟩ := hq
        obtain ⟨e₂, a₂, w₂, hq₂, harr₂⟩ := ih _ (by omega) l' σ' x' w₁ hl' rfl hV' hI'
        exact ⟨e₂, a₂, w₂, hq₂, .of_steps (harr _ (hg l' hl')) harr₂⟩
      | ret => exact ⟨_, a₁, w₁, hq, harr⟩
      | panic ch => exact ⟨_, a₁, w₁, hq, harr⟩
      | outgrown => exact ⟨_, a₁, w₁, hq, harr⟩
  obtain ⟨e, a₁, w₁, hq, harr⟩ := first b (.inScope c :: k) cs
  cases e with
  | normal => exact ⟨.normal, a₁, w₁, hq, .head step_scope (Steps.trans harr (.one step_inScope))⟩
  | exit id => exact ⟨.exit id, a₁, w₁, hq, fun k' hk => .head step_scope (harr k' (by simp [exitTo, hk]))⟩
  | goto l' =>
    obtain ⟨hl', σ', x', rfl, hV', hI'⟩ := hq
    obtain ⟨e₂, a₂, w₂, hq₂, harr₂⟩ := key _ l' σ' x' w₁ hl' rfl hV' hI'
    exact ⟨e₂, a₂, w₂, hq₂, .of_steps (.head step_scope (harr _ (hg l' hl'))) harr₂⟩
  | ret => exact ⟨_, a₁, w₁, hq, .of_steps (.one step_scope) harr⟩
  | panic ch => exact ⟨_, a₁, w₁, hq, .of_steps (.one step_scope) harr⟩
  | outgrown => exact ⟨_, a₁, w₁, hq, .of_steps (.one step_scope) harr⟩
theorem scopeS {c : Code} {a : Act} (h : ∀ Q' : Exit → Act → World → Prop, (∀ a w, Q .normal a w → Q' .normal a w) → (∀ a w, Q .ret a w → Q' .ret a w) → (∀ id a w, Q (.exit id) a w → Q' (.exit id) a w) → c.wp P Q' a w) : (Code.scope c).wp P Q a w :=
  wp_scope_straight (h _ (fun _ _ h => h) (fun _ _ h => h) (fun _ _ _ h => h))
theorem labelS {l : Nat} {a : Act} (h : Q .normal a w) : (Code.label l).wp P Q a w := wp_label h
theorem gotoS {l : Nat} {a : Act} (h : Q (.goto l) a w) : (Code.goto l).wp P Q a w := wp_goto h
theorem seqG {x y : Code} {a : Act} (h : ∀ Q' : Exit → Act → World → Prop, (∀ a w, y.wp P Q a w → Q' .normal a w) → (∀ a w, Q .ret a w → Q' .ret a w) → (∀ id a w, Q (.exit id) a w → Q' (.exit id) a w) → (∀ id a w, Q (.goto id) a w → Q' (.goto id) a w) → x.wp P Q' a w) : (Code.seq x y).wp P Q a w :=
  wp_seq (h _ (fun _ _ h => h) (fun _ _ h => h) (fun _ _ _ h => h) (fun _ _ _ h => h))
theorem scope3 {x1 x2 x3 x4 x5 y1 y2 y3 y4 z1 z2 z3 R : Code} {α : Type} (V : α → List (Nat × Value)) (Inv : Nat → α → World → Prop) (μ : α → Nat) {a : Act}
    (h0 : findLabel (Code.seq x1 (.seq x2 (.seq x3 (.seq x4 (.seq x5 (.seq (.label 0) (.seq y1 (.seq y2 (.seq y3 (.seq y4 (.seq (.label 1) (.seq z1 (.seq z2 (.seq z3 (.seq (.label 2) R))))))))))))))) 0 = some (.seq .skip (.seq y1 (.seq y2 (.seq y3 (.seq y4 (.seq (.label 1) (.seq z1 (.seq z2 (.seq z3 (.seq (.label 2) R)))))))))))
    (h1 : findLabel (Code.seq x1 (.seq x2 (.seq x3 (.seq x4 (.seq x5 (.seq (.label 0) (.seq y1 (.seq y2 (.seq y3 (.seq y4 (.seq (.label 1) (.seq z1 (.seq z2 (.seq z3 (.seq (.label 2) R))))))))))))))) 1 = some (.seq .skip (.seq z1 (.seq z2 (.seq z3 (.seq (.label 2) R))))))
    (h2 : findLabel (Code.seq x1 (.seq x2 (.seq x3 (.seq x4 (.seq x5 (.seq (.label 0) (.seq y1 (.seq y2 (.seq y3 (.seq y4 (.seq (.label 1) (.seq z1 (.seq z2 (.seq z3 (.seq (.label 2) R))))))))))))))) 2 = some (.seq .skip R))
    (pre : ∀ (Z : Code) (Q' : Exit → Act → World → Prop), (∀ σ' x' w', Has σ' (V x') → Inv 0 x' w' → Z.wp P Q' (F n σ' ds) w') → (∀ a w, Q .ret a w → Q' .ret a w) → (∀ id a w, Q (.exit id) a w → Q' (.exit id) a w) → (Code.seq x1 (.seq x2 (.seq x3 (.seq x4 (.seq x5 Z))))).wp P Q' a w)
    (p0 : ∀ τ x w, Inv 0 x w → ∀ (Z : Code) (Q' : Exit → Act → World → Prop), (∀ σ' x' w', Has σ' (V x') → Inv 1 x' w' → μ x' < μ x → Z.wp P Q' (F n σ' ds) w') → (∀ l σ' x' w', l < 3 → Has σ' (V x') → Inv l x' w' → μ x' < μ x → Q' (.goto l) (F n σ' ds) w') → (∀ a w, Q .ret a w → Q' .ret a w) → (∀ id a w, Q (.exit id) a w → Q' (.exit id) a w) → (Code.seq y1 (.seq y2 (.seq y3 (.seq y4 Z)))).wp P Q' (F n (ups (V x) τ) ds) w)
    (p1 : ∀ τ x w, Inv 1 x w → ∀ (Z : Code) (Q' : Exit → Act → World → Prop), (∀ σ' x' w', Has σ' (V x') → Inv 2 x' w' → μ x' < μ x → Z.wp P Q' (F n σ' ds) w') → (∀ l σ' x' w', l < 3 → Has σ' (V x') → Inv l x' w' → μ x' < μ x → Q' (.goto l) (F n σ' ds) w') → (∀ a w, Q .ret a w → Q' .ret a w) → (∀ id a w, Q (.exit id) a w → Q' (.exit id) a w) → (Code.seq z1 (.seq z2 (.seq z3 Z))).wp P Q' (F n (ups (V x) τ) ds) w)
    (p2 : ∀ τ x w, Inv 2 x w → ∀ Q' : Exit → Act → World → Prop, (∀ l σ' x' w', l < 3 → Has σ' (V x') → Inv l x' w' → μ x' < μ x → Q' (.goto l) (F n σ' ds) w') → (∀ a w, Q .normal a w → Q' .normal a w) → (∀ a w, Q .ret a w → Q' .ret a w) → (∀ id a w, Q (.exit id) a w → Q' (.exit id) a w) → R.wp P Q' (F n (ups (V x) τ) ds) w) :
    (Code.scope (Code.seq x1 (.seq x2 (.seq x3 (.seq x4 (.seq x5 (.seq (.label 0) (.seq y1 (.seq y2 (.seq y3 (.seq y4 (.seq (.label 1) (.seq z1 (.seq z2 (.seq z3 (.seq (.label 2) R)))))))))))))))).wp P Q a w := by
  let J : Nat → Nat → Act → World → Prop := fun m l a' w' => l < 3 ∧ ∃ σ' x', a' = F n σ' ds ∧ Has σ' (V x') ∧ Inv l x' w' ∧ μ x' < m
  have q2 : ∀ m σ x w, μ x ≤ m → Has σ (V x) → Inv 2 x w → R.wp P (jumpN (J m) Q) (F n σ ds) w := by
    intro m σ x w hm hV hI
    have h := p2 σ x w hI (jumpN (J m) Q) (fun l σ' x' w' hl h1 h2 h3 => ⟨hl, σ', x', rfl, h1, h2, by omega⟩) (fun _ _ h => h) (fun _ _ h => h) (fun _ _ _ h => h)
    rwa [ups_self hV] at h
  have q1 : ∀ m σ x w, μ x ≤ m → Has σ (V x) → Inv 1 x w → (Code.seq z1 (.seq z2 (.seq z3 (.seq (.label 2) R)))).wp P (jumpN (J m) Q) (F n σ ds) w := by
    intro m σ x w hm hV hI
    have h := p1 σ x w hI (.seq (.label 2) R) (jumpN (J m) Q) (fun σ' x' w' h1 h2 h3 => wp_seq (wp_label (q2 m σ' x' w' (by omega) h1 h2))) (fun l σ' x' w' hl h1 h2 h3 => ⟨hl, σ', x', rfl, h1, h2, by omega⟩) (fun _ _ h => h) (fun _ _ _ h => h)
    rwa [ups_self hV] at h
  have q0 : ∀ m σ x w, μ x ≤ m → Has σ (V x) → Inv 0 x w → (Code.seq y1 (.seq y2 (.seq y3 (.seq y4 (.seq (.label 1) (.seq z1 (.seq z2 (.seq z3 (.seq (.label 2) R))))))))).wp P (jumpN (J m) Q) (F n σ ds) w := by
    intro m σ x w hm hV hI
    have h := p0 σ x w hI (.seq (.label 1) (.seq z1 (.seq z2 (.seq z3 (.seq (.label 2) R))))) (jumpN (J m) Q) (fun σ' x' w' h1 h2 h3 => wp_seq (wp_label (q1 m σ' x' w' (by omega) h1 h2))) (fun l σ' x' w' hl h1 h2 h3 => ⟨hl, σ', x', rfl, h1, h2, by omega⟩) (fun _ _ h => h) (fun _ _ _ h => h)
    rwa [ups_self hV] at h
  let RR : Nat → Code := fun l => match l with | 0 => (.seq .skip (.seq y1 (.seq y2 (.seq y3 (.seq y4 (.seq (.label 1) (.seq z1 (.seq z2 (.seq z3 (.seq (.label 2) R)))))))))) | 1 => (.seq .skip (.seq z1 (.seq z2 (.seq z3 (.seq (.label 2) R))))) | _ => (.seq .skip R)
  refine scopeJN (n := n) (ds := ds) (R := RR) V Inv μ ?_ ?_ ?_
  · intro l hl
    match l, hl with
    | 0, _ => exact h0
    | 1, _ => exact h1
    | 2, _ => exact h2
  · refine pre _ _ ?_ (fun _ _ h => h) (fun _ _ _ h => h)
    intro σ' x' w' hV hI
    refine wp_seq (wp_label ?_)
    refine wp_mono (q0 (μ x') σ' x' w' (Nat.le_refl _) hV hI) ?_
    rintro e a w h
    cases e with
    | goto l => obtain ⟨hl, σ', x', e, h1, h2, _⟩ := h; exact ⟨hl, σ', x', e, h1, h2⟩
    | _ => exact h
  · intro l hl σ x w hV hI
    match l, hl with
    | 0, _ => exact wp_seq (wp_skip (q0 (μ x) σ x w (Nat.le_refl _) hV hI))
    | 1, _ => exact wp_seq (wp_skip (q1 (μ x) σ x w (Nat.le_refl _) hV hI))
    | 2, _ => exact wp_seq (wp_skip (q2 (μ x) σ x w (Nat.le_refl _) hV hI))
end
end Go.Eng
