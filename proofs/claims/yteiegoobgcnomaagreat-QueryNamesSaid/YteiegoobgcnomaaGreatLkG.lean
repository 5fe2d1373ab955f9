/- A lean reckoner for closed runs: frames, operands, what a step's success says. Over any program. -/
import Derived.Test.YteiegoobgcnomaaGreatLkD
import Derived.RangeFuncLeaves
import Derived.OrdersIn
import Derived.RangeFuncRecord
namespace Go.Lk
open Go.Eng Go.RowKit
/-! ### What success says -/
section
variable {β : Type} {r : β}
theorem on_some {α : Type} {x : Option α} {f : α → Option β} : on x f = some r ↔ ∃ a, x = some a ∧ f a = some r := by
  cases x with
  | none => exact ⟨fun h => (by cases h), fun ⟨_, h, _⟩ => (by cases h)⟩
  | some a => exact ⟨fun h => ⟨a, rfl, h⟩, fun ⟨_, h, h'⟩ => (by cases h; exact h')⟩
theorem onInt_some {f : IntKind → Int → Option β} {v : V} : V.onInt f v = some r ↔ ∃ k x, v = .int k x ∧ f k x = some r := by
  cases v <;> constructor <;> intro h <;> first | exact ⟨_, _, rfl, h⟩ | (obtain ⟨_, _, h, h'⟩ := h; cases h; exact h') | (obtain ⟨_, _, h, _⟩ := h; cases h; done) | (cases h; done)
theorem onBool_some {f : Bool → Option β} {v : V} : V.onBool f v = some r ↔ ∃ b, v = .bool b ∧ f b = some r := by
  cases v <;> constructor <;> intro h <;> first | exact ⟨_, rfl, h⟩ | (obtain ⟨_, h, h'⟩ := h; cases h; exact h') | (obtain ⟨_, h, _⟩ := h; cases h; done) | (cases h; done)
theorem onStr_some {f : List Nat → Option β} {v : V} : V.onStr f v = some r ↔ ∃ b, v = .str b ∧ f b = some r := by
  cases v <;> constructor <;> intro h <;> first | exact ⟨_, rfl, h⟩ | (obtain ⟨_, h, h'⟩ := h; cases h; exact h') | (obtain ⟨_, h, _⟩ := h; cases h; done) | (cases h; done)
theorem onPtr_some {f : P → Nat → Nat → Option β} {v : V} : V.onPtr f v = some r ↔ ∃ b i j, v = .ptr b i j ∧ f b i j = some r := by
  cases v <;> constructor <;> intro h <;> first | exact ⟨_, _, _, rfl, h⟩ | (obtain ⟨_, _, _, h, h'⟩ := h; cases h; exact h') | (obtain ⟨_, _, _, h, _⟩ := h; cases h; done) | (cases h; done)
theorem onSl_some {g : Option β} {f : P → Nat → Nat → Option Nat → Option β} {v : V} : V.onSl g f v = some r ↔ (v = .snil ∧ g = some r) ∨ ∃ b i l c, v = .sl b i l c ∧ f b i l c = some r := by
  cases v <;> constructor <;> intro h <;> first | exact .inl ⟨rfl, h⟩ | exact .inr ⟨_, _, _, _, rfl, h⟩ | (cases h; done) | (rcases h with ⟨h, h'⟩ | ⟨_, _, _, _, h, h'⟩ <;> first | (cases h; exact h') | (cases h; done)) | (cases h; done)
theorem onFn_some {f : FuncId → List V → List V → Option β} {g : P → Option β} {v : V} : V.onFn f g v = some r ↔ (∃ h a b, v = .fn h a b ∧ f h a b = some r) ∨ ∃ l, v = .yield l ∧ g l = some r := by
  cases v <;> constructor <;> intro h <;> first | exact .inl ⟨_, _, _, rfl, h⟩ | exact .inr ⟨_, rfl, h⟩ | (cases h; done) | (rcases h with ⟨_, _, _, h, h'⟩ | ⟨_, h, h'⟩ <;> first | (cases h; exact h') | (cases h; done)) | (cases h; done)
theorem onMap_some {g : Option β} {f : P → Option β} {v : V} : V.onMap g f v = some r ↔ (v = .mnil ∧ g = some r) ∨ ∃ b, v = .map b ∧ f b = some r := by
  cases v <;> constructor <;> intro h <;> first | exact .inl ⟨rfl, h⟩ | exact .inr ⟨_, rfl, h⟩ | (cases h; done) | (rcases h with ⟨h, h'⟩ | ⟨_, h, h'⟩ <;> first | (cases h; exact h') | (cases h; done)) | (cases h; done)
theorem onAgg_some {f : List V → Option β} {v : V} : V.onAgg f v = some r ↔ ∃ b, v = .agg b ∧ f b = some r := by
  cases v <;> constructor <;> intro h <;> first | exact ⟨_, rfl, h⟩ | (obtain ⟨_, h, h'⟩ := h; cases h; exact h') | (obtain ⟨_, h, _⟩ := h; cases h; done) | (cases h; done)
theorem onTup_some {f : List V → Option β} {v : V} : V.onTup f v = some r ↔ ∃ b, v = .tup b ∧ f b = some r := by
  cases v <;> constructor <;> intro h <;> first | exact ⟨_, rfl, h⟩ | (obtain ⟨_, h, h'⟩ := h; cases h; exact h') | (obtain ⟨_, h, _⟩ := h; cases h; done) | (cases h; done)
theorem onNat_some {f : Nat → Option β} {v : V} : onNat f v = some r ↔ ∃ k x, v = .int k (.ofNat x) ∧ f x = some r := by
  unfold onNat
  rw [onInt_some]
  constructor
  · rintro ⟨k, x, rfl, h⟩
    cases x with
    | ofNat x => exact ⟨k, x, rfl, h⟩
    | negSucc x => cases h
  · rintro ⟨k, x, rfl, h⟩; exact ⟨k, _, rfl, h⟩
theorem onRows_some {f : TypeId → Nat → Bool → List (List V) → Option β} {B : Blk} : Blk.onRows f B = some r ↔ ∃ t k o rs, B = .rows t k o rs ∧ f t k o rs = some r := by
  cases B <;> constructor <;> intro h <;> first | exact ⟨_, _, _, _, rfl, h⟩ | (obtain ⟨_, _, _, _, h, h'⟩ := h; cases h; exact h') | (obtain ⟨_, _, _, _, h, _⟩ := h; cases h; done) | (cases h; done)
theorem onMapB_some {f : List Ent → Nat → Option β} {B : Blk} : Blk.onMap f B = some r ↔ ∃ es c, B = .map es c ∧ f es c = some r := by
  cases B <;> constructor <;> intro h <;> first | exact ⟨_, _, rfl, h⟩ | (obtain ⟨_, _, h, h'⟩ := h; cases h; exact h') | (obtain ⟨_, _, h, _⟩ := h; cases h; done) | (cases h; done)
theorem onLoop_some {f : LoopState → Option X → T V → Nat → List Nat → Code → Code → P → Option β} {B : Blk} : Blk.onLoop f B = some r ↔ ∃ st p σ m ps a b d, B = .loop st p σ m ps a b d ∧ f st p σ m ps a b d = some r := by
  cases B <;> constructor <;> intro h <;> first | exact ⟨_, _, _, _, _, _, _, _, rfl, h⟩ | (obtain ⟨_, _, _, _, _, _, _, _, h, h'⟩ := h; cases h; exact h') | (obtain ⟨_, _, _, _, _, _, _, _, h, _⟩ := h; cases h; done) | (cases h; done)
theorem onDfr_some {f : Bool → Option β} {B : Blk} : Blk.onDfr f B = some r ↔ ∃ b, B = .dfr b ∧ f b = some r := by
  cases B <;> constructor <;> intro h <;> first | exact ⟨_, rfl, h⟩ | (obtain ⟨_, h, h'⟩ := h; cases h; exact h') | (obtain ⟨_, h, _⟩ := h; cases h; done) | (cases h; done)
theorem if_some {b : Bool} {f g : Option β} : (Bool.rec f g b : Option β) = some r ↔ (b = true ∧ g = some r) ∨ (b = false ∧ f = some r) := by cases b <;> simp
theorem ifT_some {b : Bool} {g : Option β} : (Bool.rec none g b : Option β) = some r ↔ b = true ∧ g = some r := by cases b <;> simp
theorem ifF_some {b : Bool} {f : Option β} : (Bool.rec f none b : Option β) = some r ↔ b = false ∧ f = some r := by cases b <;> simp
end
/-! ### Lists -/
section
variable {α β : Type}
@[simp] theorem appL_eq (l m : List α) : appL l m = l ++ m := by
  induction l with
  | nil => rfl
  | cons v l ih => show v :: appL l m = _; rw [ih]; rfl
@[simp] theorem lenL_eq (l : List α) : lenL l = l.length := by
  induction l with
  | nil => rfl
  | cons v l ih => show Nat.succ (lenL l) = _; rw [ih]; rfl
@[simp] theorem mapL_eq (f : α → β) (l : List α) : mapL f l = l.map f := by
  induction l with
  | nil => rfl
  | cons v l ih => show f v :: mapL f l = _; rw [ih]; rfl
@[simp] theorem repL_eq (v : α) (n : Nat) : repL v n = List.replicate n v := by
  induction n with
  | zero => rfl
  | succ n ih => show v :: repL v n = _; rw [ih]; rfl
@[simp] theorem flatL_eq (l : List (List α)) : flatL l = l.flatten := by
  induction l with
  | nil => rfl
  | cons v l ih => show appL v (flatL l) = _; rw [ih]; simp
end
theorem eqL_eq (a b : List Nat) : eqL a b = decide (a = b) := by
  induction a generalizing b with
  | nil => cases b <;> rfl
  | cons x a ih =>
    cases b with
    | nil => rfl
    | cons y b =>
      show (Bool.rec false (eqL a b) (Nat.beq x y) : Bool) = _
      rw [ih]
      cases h : Nat.beq x y with
      | false => simp only; symm; rw [decide_eq_false_iff_not]; rintro ⟨⟩; simp at h
      | true => have := Nat.eq_of_beq_eq_true h; subst this; simp
/-! ### Frames, operands -/
structure Fr (ρ : Ren) (m : Nat) (σ : T V) (τ : Nat → Value) : Prop where
  get : ∀ t v, T.get (pathOf t) σ = some v → t < m ∧ Rv ρ v (τ t)
theorem Fr.mono {ρ ρ' : Ren} (h : ρ.le ρ') {m : Nat} {σ : T V} {τ : Nat → Value} (f : Fr ρ m σ τ) : Fr ρ' m σ τ := ⟨fun t v e => ⟨(f.get t v e).1, (f.get t v e).2.mono h⟩⟩
theorem Fr.set {ρ : Ren} {m : Nat} {σ : T V} {τ : Nat → Value} (f : Fr ρ m σ τ) {v : V} {x : Value} (hv : Rv ρ v x) (d : Nat) : Fr ρ m (T.set v (pathOf d) σ) (upd τ d x) := by
  refine ⟨fun t u e => ?_⟩
  rw [T.get_set] at e
  by_cases h : pathOf t = pathOf d
  · rw [if_pos h] at e
    have h := pathOf_inj h; subst h
    cases hg : T.get (pathOf t) σ with
    | none => rw [hg] at e; cases e
    | some y =>
      rw [hg] at e; cases e
      exact ⟨(f.get t y hg).1, by simp only [upd, Nat.beq_refl, cond_true]; exact hv⟩
  · rw [if_neg h] at e
    have h1 := f.get t u e
    refine ⟨h1.1, ?_⟩
    have : Nat.beq t d = false := by cases hb : Nat.beq t d; rfl; exact absurd (congrArg pathOf (Nat.eq_of_beq_eq_true hb)) h
    simp only [upd, this, cond_false]; exact h1.2
theorem initT_get (m t : Nat) : T.get (pathOf t) (initT m) = if t < m then some undefV else none := by
  induction m with
  | zero => show T.get (pathOf t) .e = _; simp
  | succ m ih =>
    show T.get (pathOf t) (T.put (some undefV) (pathOf m) (initT m)) = _
    rw [T.get_put, ih]
    by_cases h : pathOf t = pathOf m
    · rw [if_pos h, if_pos (by rw [pathOf_inj h]; omega)]
    · rw [if_neg h]
      have : t ≠ m := fun e => h (congrArg pathOf e)
      by_cases h2 : t < m
      · rw [if_pos h2, if_pos (by omega)]
      · rw [if_neg h2, if_neg (by omega)]
theorem Rv_undef {ρ : Ren} : Rv ρ undefV undef := by unfold undefV; simp only [Rv]; exact ⟨#[], rfl, by simp only [Rvs]⟩
theorem ofVal_sound (ρ : Ren) : ∀ f, (∀ v u, ofVal f v = some u → Rv ρ u v) ∧ (∀ l us, ofVals f l = some us → Rvs ρ us l) := by
  intro f
  induction f with
  | zero => exact ⟨fun v u h => (by simp [ofVal] at h), fun v u h => (by simp [ofVals] at h)⟩
  | succ f ih =>
    obtain ⟨ih1, ih2⟩ := ih
    constructor
    · intro v u h
      unfold ofVal at h
      split at h
      · cases h; simp only [Rv]
      · cases h; simp only [Rv]
      · cases h; simp only [Rv]; exact ⟨_, rfl, rfl⟩
      · cases h; simp only [Rv]
      · cases h; simp only [Rv]
      · cases h; simp only [Rv]
      · cases h; simp only [Rv]
      · cases h; simp only [Rv]
      · cases h; simp only [Rv]
      · split at h
        · rename_i e1 e2; cases h; simp only [Rv]; exact ⟨_, _, rfl, ih2 _ _ e1, ih2 _ _ e2⟩
        · cases h
      · split at h
        · rename_i e1; cases h; simp only [Rv]; exact ⟨_, rfl, ih2 _ _ e1⟩
        · cases h
      · split at h
        · rename_i e1; cases h; simp only [Rv]; exact ⟨_, rfl, ih2 _ _ e1⟩
        · cases h
      · split at h
        · rename_i e1; cases h; simp only [Rv]; exact ⟨_, rfl, ih1 _ _ e1⟩
        · cases h
      · cases h
    · intro l us h
      cases l with
      | nil => simp [ofVals] at h; subst h; simp only [Rvs]
      | cons v l =>
        simp only [ofVals] at h
        split at h
        · rename_i e1 e2; cases h; simp only [Rvs]; exact ⟨_, _, rfl, ih1 _ _ e1, ih2 _ _ e2⟩
        · cases h
section
variable {ρ : Ren} {m : Nat} {σ : T V} {τ : Nat → Value}
theorem evO_sound (f : Fr ρ m σ τ) {x : Operand} {v : V} (h : evO x σ = some v) : Rv ρ v (ev m τ x) := by
  cases x with
  | tmp t =>
    obtain ⟨h1, h2⟩ := f.get t v h
    have : Nat.blt t m = true := by rw [Nat.blt_eq]; exact h1
    simp only [ev, this, cond_true]; exact h2
  | const c => exact (ofVal_sound ρ 40).1 _ _ h
  | global g => cases h
  | func g =>
    have h : (some (.fn g [] []) : Option V) = some v := h
    cases h
    simp only [Rv, ev]
    exact ⟨#[], #[], rfl, by simp only [Rvs], by simp only [Rvs]⟩
theorem evOs_sound (f : Fr ρ m σ τ) : ∀ {l : List Operand} {vs : List V}, evOs l σ = some vs → Rvs ρ vs (l.map (ev m τ))
  | [], vs, h => by have h : (some [] : Option (List V)) = some vs := h; cases h; simp only [List.map_nil, Rvs]
  | x :: l, vs, h => by
    have h : (on (evO x σ) fun v => on (evOs l σ) fun m => some (v :: m)) = some vs := h
    simp only [on_some] at h
    obtain ⟨v, h1, m, h2, h3⟩ := h
    cases h3
    simp only [List.map_cons, Rvs]
    exact ⟨_, _, rfl, evO_sound f h1, evOs_sound f h2⟩
end
end Go.Lk
namespace Go.Lk
open Go.Eng Go.RowKit
section
variable {Pr : Program} {t : TypeId}
theorem szT_spec {k : Nat} (h : szT Pr t = some k) : SZ Pr t k := by
  intro w
  unfold szT at h
  cases hi : Pr.info? t with
  | none => rw [hi] at h; cases h
  | some i =>
    rw [hi] at h; cases h
    simp [sizeOf, typeInfo, Sem.run_bind, hi]
theorem aggT_none (h : aggT Pr t = some none) : NA Pr t := by
  intro w
  unfold aggT at h
  split at h
  · cases hi : Pr.info? t <;> rw [hi] at h <;> cases h
  · cases hi : Pr.info? t <;> rw [hi] at h <;> cases h
  · rename_i d h1 h2 hd
    simp only [isAgg, Sem.run_bind, run_underlying hd, Result.andThen_ok]
    cases d <;> first | exact absurd hd (h1 _) | exact absurd hd (h2 _ _) | rfl
  · cases h
theorem aggT_some {k : Nat} (h : aggT Pr t = some (some k)) : AG Pr t k := by
  intro w
  unfold aggT at h
  split at h
  · rename_i fs hd
    cases hi : Pr.info? t with
    | none => rw [hi] at h; cases h
    | some i =>
      rw [hi] at h; cases h
      refine ⟨?_, by simp [sizeOf, typeInfo, Sem.run_bind, hi]⟩
      simp only [isAgg, Sem.run_bind, run_underlying hd, Result.andThen_ok]; rfl
  · rename_i n e hd
    cases hi : Pr.info? t with
    | none => rw [hi] at h; cases h
    | some i =>
      rw [hi] at h; cases h
      refine ⟨?_, by simp [sizeOf, typeInfo, Sem.run_bind, hi]⟩
      simp only [isAgg, Sem.run_bind, run_underlying hd, Result.andThen_ok]; rfl
  · cases h
  · cases h
theorem zeroT_spec {ρ : Ren} {z : V} (h : zeroT Pr t = some z) : ∃ x, ZV Pr t x ∧ Rv ρ z x := by
  unfold zeroT at h
  cases hi : Pr.info? t with
  | none => rw [hi] at h; cases h
  | some i =>
    rw [hi] at h
    cases hz : i.zero with
    | none => simp [hz] at h
    | some x =>
      simp [hz] at h
      exact ⟨x, fun w => by simp [zeroValue, typeInfo, Sem.run_bind, hi, hz], (ofVal_sound ρ 40).1 _ _ h⟩
theorem fieldT_spec {f k : Nat} {fl : Field} (h : fieldT Pr t f = some fl) (hk : szT Pr fl.type = some (k + 1)) : FA Pr t f fl.offset := by
  intro a w
  unfold fieldT at h
  split at h
  · rename_i fs hd
    have hs := szT_spec hk w
    simp [Instr.fieldAt, Sem.run_bind, run_underlying hd, h, Instr.sureAddr, fieldPlace, hs]
  · cases h
end
section
variable {β : Type} {r : β} {Pr : Program} {m : Nat} {w0 : Base} {w : World} {ty t : TypeId} {ρ : Ren} {σ : T V} {τ : Nat → Value} {h : T Blk} {n : P} {run : Run}
/-- what stands behind an operation: less is said, but enough -/
def Kx (w0 : Base) (ρ : Ren) (r : β) (k : V → T Blk → P → Option β) : Value → World → Prop := fun x w' => ∃ ρ' v h' n', ρ.le ρ' ∧ Rh w0 ρ' h' n' w' ∧ Rv ρ' v x ∧ k v h' n' = some r
theorem qx_sound {op : Op} {q : T V → T Blk → Option V} (hq : ∀ v, q σ h = some v → ∃ x, Ex Pr (ev m τ) w op ty x ∧ Rv ρ v x) {k : V → T Blk → P → Option β} (e : qx q run σ h n k = some r) (H : Rh w0 ρ h n w) :
    Eff Pr (ev m τ) w op ty (Kx w0 ρ r k) := by
  unfold qx at e
  rw [on_some] at e
  obtain ⟨v, hv, hk⟩ := e
  obtain ⟨x, hx, hr⟩ := hq v hv
  exact ⟨x, w, ⟨ρ, v, h, n, .refl _, H, hr, hk⟩, .inl hx⟩
theorem s_move (f : Fr ρ m σ τ) {x : Operand} {v : V} (e : evO x σ = some v) : ∃ u, Ex Pr (ev m τ) w (.move x) ty u ∧ Rv ρ v u := ⟨_, x_move rfl, evO_sound f e⟩
theorem s_assign (f : Fr ρ m σ τ) {x : Operand} {v : V} (e : evO x σ = some v) : ∃ u, Ex Pr (ev m τ) w (.assign x) ty u ∧ Rv ρ v u := ⟨_, x_assign rfl, evO_sound f e⟩
theorem s_pick (f : Fr ρ m σ τ) {c a b : Operand} {v : V} (e : on (evO c σ) (V.onBool fun t => Bool.rec (evO b σ) (evO a σ) t) = some v) : ∃ u, Ex Pr (ev m τ) w (.pick c a b) ty u ∧ Rv ρ v u := by
  simp only [on_some, onBool_some] at e
  obtain ⟨_, hc, t, rfl, e⟩ := e
  have hc' := evO_sound f hc
  simp only [Rv] at hc'
  cases t with
  | true => exact ⟨_, x_pickT hc' rfl, evO_sound f e⟩
  | false => exact ⟨_, x_pickF hc' rfl, evO_sound f e⟩
theorem on2_some {β : Type} {r : β} {f : List (List V) → Option β} {g : List Nat → Option β} {B : Blk} (e : Blk.on2 f g B = some r) : (∃ t k o rs, B = .rows t k o rs ∧ f rs = some r) ∨ ∃ l, B = .fz l ∧ g l = some r := by
  cases B <;> first | exact .inl ⟨_, _, _, _, rfl, e⟩ | exact .inr ⟨_, rfl, e⟩ | cases e
theorem cell1_some {b : P} {i j : Nat} {v : V} (e : cell1 b i j h = some v) : readN 1 b i j h = some [v] ∨ ∃ l c, T.get b h = some (.fz l) ∧ l[i]? = some c ∧ j = 0 ∧ v = .int .u8 (.ofNat c) := by
  unfold cell1 at e
  rw [on_some] at e
  obtain ⟨B, hB, e⟩ := e
  rcases on2_some e with ⟨t', k', o', rs, rfl, e1⟩ | ⟨l, rfl, e1⟩
  · refine .inl ?_
    simp only [on_some, nthL_eq] at e1
    obtain ⟨row, h2, h3⟩ := e1
    unfold readN rowsAt
    rw [hB]
    show (Option.rec none (fun row => takeL 1 (dropL j row)) (nthL i rs) : Option (List V)) = _
    simp only [nthL_eq, h2, dropL_eq]
    have : row.drop j = v :: row.drop (j + 1) := by
      rw [List.drop_eq_getElem_cons (List.getElem?_eq_some_iff.1 h3).1, (List.getElem?_eq_some_iff.1 h3).2]
    rw [this]; rfl
  · simp only [ifT_some, on_some, nthL_eq] at e1
    obtain ⟨hj, c, hc, e2⟩ := e1
    cases e2
    exact .inr ⟨l, c, hB, hc, Nat.eq_of_beq_eq_true hj, rfl⟩
theorem ldF (H : Rh w0 ρ h n w) (hN : NA Pr t) {x : Operand} {cv : Value} (hx : ev m τ x = cv) {b : P} {i : Nat} (hv : Rv ρ (.ptr b i 0) cv) {l : List Nat} {c : Nat} (hB : T.get b h = some (.fz l)) (hc : l[i]? = some c) : ∃ u, Ex Pr (ev m τ) w (.load t x) ty u ∧ Rv ρ (.int .u8 (.ofNat c)) u := by
  simp only [Rv] at hv
  obtain ⟨L, hL, rfl⟩ := hv
  obtain ⟨hk, arr, t', fr, ho, hr⟩ := H.live b _ L hB hL
  refine ⟨.int .u8 (.ofNat c), x_load1 hN hx ⟨arr, t', fr, ho, fun j hj => ?_⟩, by simp only [Rv]⟩
  have : j = 0 := by simp at hj; exact hj
  subst this
  rw [hk]
  simpa using hr i c hc
theorem s_load (H : Rh w0 ρ h n w) (f : Fr ρ m σ τ) {a : Operand} {g : Option Nat} (hg : aggT Pr t = some g) {v : V} (e : (on (evO a σ) fun p => loadQ g p h) = some v) : ∃ u, Ex Pr (ev m τ) w (.load t a) ty u ∧ Rv ρ v u := by
  rw [on_some] at e
  obtain ⟨p, hp, e⟩ := e
  have hp' := evO_sound f hp
  cases g with
  | none =>
    have e : (V.onPtr (fun b i j => cell1 b i j h) p) = some v := e
    rw [onPtr_some] at e
    obtain ⟨b, i, j, rfl, e⟩ := e
    rcases cell1_some e with e | ⟨l, c, hB, hc, rfl, rfl⟩
    · exact ld1 H (aggT_none hg) rfl hp' e
    · exact ldF H (aggT_none hg) rfl hp' hB hc
  | some k =>
    have e : (V.onPtr (fun b i j => on (readN k b i j h) fun l => some (.agg l)) p) = some v := e
    simp only [onPtr_some, on_some] at e
    obtain ⟨b, i, j, rfl, l, hl, e⟩ := e
    cases e
    exact ldA H (aggT_some hg) rfl hp' hl
theorem s_fieldAddr (f : Fr ρ m σ τ) {x : Operand} {s fi k : Nat} {fl : Field} (hf : fieldT Pr s fi = some fl) (hk : szT Pr fl.type = some (k + 1)) {v : V} (e : on (evO x σ) (V.onPtr fun b i j => some (.ptr b i (Nat.add j fl.offset))) = some v) : ∃ u, Ex Pr (ev m τ) w (.fieldAddr s x fi) ty u ∧ Rv ρ v u := by
  simp only [on_some, onPtr_some] at e
  obtain ⟨_, hx, b, i, j, rfl, e⟩ := e
  cases e
  have hx' := evO_sound f hx
  simp only [Rv] at hx'
  obtain ⟨L, hL, hx'⟩ := hx'
  refine ⟨_, x_field (fieldT_spec hf hk) hx', ?_⟩
  simp only [Rv]
  exact ⟨L, hL, by rw [Nat.add_assoc]; rfl⟩
theorem s_extract (f : Fr ρ m σ τ) {x : Operand} {i : Nat} {v : V} (e : on (evO x σ) (V.onTup fun l => nthL i l) = some v) : ∃ u, Ex Pr (ev m τ) w (.extract x i) ty u ∧ Rv ρ v u := by
  simp only [on_some, onTup_some, nthL_eq] at e
  obtain ⟨_, hx, l, rfl, e⟩ := e
  have hx' := evO_sound f hx
  simp only [Rv] at hx'
  obtain ⟨a, ha, hr⟩ := hx'
  obtain ⟨y, hy, hv⟩ := hr.get' e
  exact ⟨y, x_extract ha (by rw [← Array.getElem?_toList]; exact hy), hv⟩
theorem s_makeFunc (f : Fr ρ m σ τ) {g : FuncId} {a b : Array Operand} {v : V} (e : (on (evOs a.toList σ) fun a => on (evOs b.toList σ) fun b => some (.fn g a b)) = some v) : ∃ u, Ex Pr (ev m τ) w (.makeFunc (.func g) a b) ty u ∧ Rv ρ v u := by
  simp only [on_some] at e
  obtain ⟨x, hx, y, hy, e⟩ := e
  cases e
  refine ⟨.func (.func g) (a.map (ev m τ)) (b.map (ev m τ)), fun _ _ _ _ => by simp [execOp, Instr.makeFunc], ?_⟩
  simp only [Rv]
  exact ⟨_, _, rfl, by rw [Array.toList_map]; exact evOs_sound f hx, by rw [Array.toList_map]; exact evOs_sound f hy⟩
theorem s_nilCheck (f : Fr ρ m σ τ) {x : Operand} {v : V} (e : on (evO x σ) nilQ = some v) : ∃ u, Ex Pr (ev m τ) w (.nilCheck x) ty u ∧ Rv ρ v u := by
  rw [on_some] at e
  obtain ⟨p, hp, e⟩ := e
  have hp' := evO_sound f hp
  have hv : p = v := by cases p <;> first | (cases e; done) | (cases e; rfl)
  subst hv
  refine ⟨_, fun _ _ _ _ => ?_, hp'⟩
  cases p <;> first | (cases e; done) | skip
  all_goals simp only [Rv] at hp'
  all_goals first | (rename_i b; cases b; simp [execOp, hp']; done) | (simp [execOp, hp']; done) | (obtain ⟨_, hp', _⟩ := hp'; simp [execOp, hp']; done) | (obtain ⟨_, _, hp'⟩ := hp'; simp [execOp, hp']; done) | (obtain ⟨_, _, hp', _⟩ := hp'; simp [execOp, hp']; done) | (obtain ⟨_, _, _, hp', _⟩ := hp'; simp [execOp, hp']; done)
end
end Go.Lk
namespace Go.Lk
open Go.Eng Go.RowKit
section
variable {F : Fence} {n : Nat} {P : Program} {Q : Exit → Act → World → Prop} {a : Act} {w : World}
/-- a loop: so many rounds at most -/
theorem wpIn_loopN {c : Code} (I : Nat → Act → World → Prop) (j : Nat) (h0 : I j a w)
    (round : ∀ j a w, I j a w → c.wpIn F n P (Exit.then (fun a' w' => ∃ j', j' < j ∧ I j' a' w') Q) a w) : (Code.loop c).wpIn F n P Q a w := by
  intro b k cs hro hb hr
  have key : ∀ j a w, I j a w → ∃ e a' w', Q e a' w' ∧ ArrivesIn (Machine.fenced P F) P (lone (b.atR a (.code c :: .inLoop c :: k)) cs w) b k cs e a' w' := by
    intro j
    induction j using Nat.strongRecOn with
    | _ j ih =>
      intro a w hI
      obtain ⟨e, a₁, w₁, hq, harr⟩ := round j a w hI b (.inLoop c :: k) cs hro hb hr
      cases e with
      | normal =>
        obtain ⟨j', hlt, hI'⟩ := hq
        obtain ⟨e₂, a₂, w₂, hq₂, harr₂⟩ := ih j' hlt a₁ w₁ hI'
        exact ⟨e₂, a₂, w₂, hq₂, .of_steps (StepsIn.trans harr (.one (fenced_calm hb hr rfl) stepR_inLoop)) harr₂⟩
      | exit id => exact ⟨_, a₁, w₁, hq, .pass (x := .inLoop c) rfl (fun _ _ => .inl (by simp)) harr⟩
      | goto l => exact ⟨_, a₁, w₁, hq, .pass (x := .inLoop c) rfl (fun _ _ => .inl (by simp)) harr⟩
      | ret => exact ⟨_, a₁, w₁, hq, .pass (x := .inLoop c) rfl (fun _ _ => .inl (by simp)) harr⟩
      | panic ch => exact ⟨_, a₁, w₁, hq, .pass (x := .inLoop c) rfl (fun _ _ => .inl (by simp)) harr⟩
      | outgrown => exact ⟨_, a₁, w₁, hq, .pass (x := .inLoop c) rfl (fun _ _ => .inl (by simp)) harr⟩
  obtain ⟨e, a', w', hq, harr⟩ := key j a w h0
  exact ⟨e, a', w', hq, .of_steps (.one (fenced_calm hb hr rfl) stepR_loop) harr⟩
/-- a goto within a scope -/
def scopeQ (c : Code) (J : Code → Act → World → Prop) (Q : Exit → Act → World → Prop) : Exit → Act → World → Prop
  | .goto l, a, w => match findLabel c l with
    | some rest => J rest a w
    | none => Q (.goto l) a w
  | e, a, w => Q e a w
theorem stepR_scope {b : Frame} {k : List Item} {cs : List Frame} {c : Code} : step P (lone (b.atR a (.code (.scope c) :: k)) cs w) = .next (lone (b.atR a (.code c :: .inScope c :: k)) cs w) :=
  step_lone_go (by simp [stepG, stepG.exec, Frame.atR])
theorem stepR_inScope {b : Frame} {k : List Item} {cs : List Frame} {c : Code} : step P (lone (b.atR a (.inScope c :: k)) cs w) = .next (lone (b.atR a k) cs w) :=
  step_lone_go (by simp [stepG, stepG.exec, Frame.atR])
theorem wpIn_scopeN {c : Code} (I : Nat → Code → Act → World → Prop) (j : Nat) (h0 : I j c a w)
    (round : ∀ j rest a w, I j rest a w → rest.wpIn F n P (scopeQ c (fun rest' a' w' => ∃ j', j' < j ∧ I j' rest' a' w') Q) a w) : (Code.scope c).wpIn F n P Q a w := by
  intro b k cs hro hb hr
  have key : ∀ j rest a w, I j rest a w → ∃ e a' w', Q e a' w' ∧ ArrivesIn (Machine.fenced P F) P (lone (b.atR a (.code rest :: .inScope c :: k)) cs w) b k cs e a' w' := by
    intro j
    induction j using Nat.strongRecOn with
    | _ j ih =>
      intro rest a w hI
      obtain ⟨e, a₁, w₁, hq, harr⟩ := round j rest a w hI b (.inScope c :: k) cs hro hb hr
      cases e with
      | normal => exact ⟨.normal, a₁, w₁, hq, StepsIn.trans harr (.one (fenced_calm hb hr rfl) stepR_inScope)⟩
      | exit id =>
        have hx : exitTo id (.inScope c :: k) = exitTo id k := by simp [exitTo]
        exact ⟨.exit id, a₁, w₁, hq, fun k' hk => harr.1 k' (by rw [hx]; exact hk), fun hr' hk => let ⟨k₁, h1, h2⟩ := harr.2 hr' (by rw [hx]; exact hk); ⟨k₁, h1, h2⟩⟩
      | goto l =>
        simp only [scopeQ] at hq
        cases hf : findLabel c l with
        | some rest' =>
          rw [hf] at hq
          obtain ⟨j', hlt, hI'⟩ := hq
          obtain ⟨e₂, a₂, w₂, hq₂, harr₂⟩ := ih j' hlt rest' a₁ w₁ hI'
          exact ⟨e₂, a₂, w₂, hq₂, .of_steps (harr.1 _ (by simp [gotoIn, hf])) harr₂⟩
        | none =>
          rw [hf] at hq
          have hx : gotoIn l (.inScope c :: k) = gotoIn l k := by simp [gotoIn, hf]
          exact ⟨.goto l, a₁, w₁, hq, fun k' hk => harr.1 k' (by rw [hx]; exact hk), fun hr' hk => let ⟨k₁, h1, h2⟩ := harr.2 hr' (by rw [hx]; exact hk); ⟨k₁, h1, h2⟩⟩
      | ret => exact ⟨_, a₁, w₁, hq, harr⟩
      | panic ch => exact ⟨_, a₁, w₁, hq, harr⟩
      | outgrown => exact ⟨_, a₁, w₁, hq, harr⟩
  obtain ⟨e, a', w', hq, harr⟩ := key j c a w h0
  exact ⟨e, a', w', hq, .of_steps (.one (fenced_calm hb hr rfl) stepR_scope) harr⟩
end
/-! ### Calls that were put off, states, what stands behind -/
def Rd (ρ : Ren) : D → Deferred → Prop
  | .call f as, d => ∃ cap, d.target = .fn (.func f) cap ∧ Rvs ρ as (d.args ++ cap).toList
  | .mark b, d => ∃ L, ρ b = some L ∧ d.target = .collected L.c
theorem Rd.mono {ρ ρ' : Ren} (h : ρ.le ρ') {d : D} {e : Deferred} (r : Rd ρ d e) : Rd ρ' d e := by
  cases d with
  | call f as => obtain ⟨c, h1, h2⟩ := r; exact ⟨c, h1, h2.mono h⟩
  | mark b => obtain ⟨L, h1, h2⟩ := r; exact ⟨L, h _ _ h1, h2⟩
structure St (w0 : Base) (ρ : Ren) (m : Nat) (σ : T V) (ds : List D) (h : T Blk) (n : P) (a : Act) (w : World) : Prop where
  fr : ∃ τ dsr, a = F m τ dsr ∧ Fr ρ m σ τ ∧ All2 (Rd ρ) ds dsr
  hp : Rh w0 ρ h n w
section
variable {β : Type}
def KQ (w0 : Base) (ρ : Ren) (m : Nat) (r : β) (k : KN β) (a : Act) (w : World) : Prop := ∃ ρ' σ ds h n, ρ.le ρ' ∧ St w0 ρ' m σ ds h n a w ∧ k σ ds h n = some r
theorem KQ.mono {w0 : Base} {ρ ρ' : Ren} {m : Nat} {r : β} {k : KN β} {a : Act} {w : World} (h : ρ.le ρ') (q : KQ w0 ρ' m r k a w) : KQ w0 ρ m r k a w := by
  obtain ⟨ρ1, σ, ds, hh, n, h1, h2, h3⟩ := q
  exact ⟨ρ1, σ, ds, hh, n, h.trans h1, h2, h3⟩
def PQ (w0 : Base) (ρ : Ren) (m : Nat) (r : β) (kn : KN β) (kx : X → KN β) : Exit → Act → World → Prop
  | .normal, a, w => KQ w0 ρ m r kn a w
  | .exit i, a, w => KQ w0 ρ m r (kx (.exit i)) a w
  | .goto l, a, w => KQ w0 ρ m r (kx (.goto l)) a w
  | .ret, a, w => KQ w0 ρ m r (kx .ret) a w
  | _, _, _ => False
theorem PQ.mono {w0 : Base} {ρ ρ' : Ren} {m : Nat} {r : β} {kn : KN β} {kx : X → KN β} {e : Exit} {a : Act} {w : World} (h : ρ.le ρ') (q : PQ w0 ρ' m r kn kx e a w) : PQ w0 ρ m r kn kx e a w := by
  cases e <;> first | exact KQ.mono h q | exact q.elim
end
def Fw : Option Nat → Fence
  | none => Fence.wide
  | some l => Fence.wide.inRound l
theorem Fw_fn (r : Option Nat) (f : FuncId) : (Fw r).fn f := by cases r <;> trivial
theorem Fw_depth (r : Option Nat) : (Fw r).depth.isSome = true → 1 ≤ 0 := by cases r <;> intro h <;> cases h
/-- the round in which we are -/
def RdR (ρ : Ren) : Option P → Option Nat → Prop
  | none, none => True
  | some b, some c => ∃ L, ρ b = some L ∧ c = L.c
  | _, _ => False
theorem RdR.mono {ρ ρ' : Ren} (h : ρ.le ρ') {d : Option P} {e : Option Nat} (r : RdR ρ d e) : RdR ρ' d e := by
  cases d <;> cases e <;> first | exact r | (obtain ⟨L, h1, h2⟩ := r; exact ⟨L, h _ _ h1, h2⟩)
theorem callsIn_fw {Pr : Program} {r : Option Nat} {f : FuncId} {args : Array Value} {w : World} {R : Ending → World → Prop} (h : CallsIn Fence.wide 0 Pr f args w R) : CallsIn (Fw r) 0 Pr f args w R := by
  cases r <;> exact h
/-- what a call answers -/
def RQ (w0 : Base) (ρ : Ren) (res : Res) (e : Ending) (w' : World) : Prop := ∃ x ρ', e = .returned x ∧ ρ.le ρ' ∧ Rh w0 ρ' res.2.1 res.2.2 w' ∧ Rv ρ' res.1 x
theorem RQ.mono {w0 : Base} {ρ ρ' : Ren} {res : Res} {e : Ending} {w : World} (h : ρ.le ρ') (q : RQ w0 ρ' res e w) : RQ w0 ρ res e w := by
  obtain ⟨x, ρ1, h1, h2, h3⟩ := q; exact ⟨x, ρ1, h1, h.trans h2, h3⟩
/-- a call by a function's number stands: of one with a body, of one without -/
def CallOK (Pr : Program) (f : FuncId) (args : Array Value) (w : World) (R : Ending → World → Prop) : Prop :=
  (CF Pr f ∧ CallsIn Fence.wide 0 Pr f args w R) ∨ enters Pr f = none ∧ ∃ x w', (callFunc f args).run Pr w = .ok (.value x) w' ∧ R (.returned x) w'
structure RunOK (Pr : Program) (run : Run) : Prop where
  call : ∀ f as h n res, run (.call f as) h n = some res → ∀ w0 ρ w args, Rh w0 ρ h n w → Rvs ρ as args.toList → CallOK Pr f args w (RQ w0 ρ res)
  dcall : ∀ f as h n res, run (.dcall f as) h n = some res → ∀ w0 ρ w args, Rh w0 ρ h n w → Rvs ρ as args.toList → CF Pr f ∧ ∀ u, CallsDIn Fence.wide 0 Pr f args u w fun e u' w' => u' = u ∧ RQ w0 ρ res e w'
  round : ∀ l as h n res, run (.round l as) h n = some res → ∀ w0 ρ w args L, Rh w0 ρ h n w → Rvs ρ as args.toList → ρ l = some L →
    ∃ r, w.heap[L.c]? = some (.loop r) ∧ args.size = r.params.size ∧ RoundIn Fence.wide 0 Pr L.c r.fn ((r.params.zip args).foldl (fun tmps (t, a) => tmps.setIfInBounds t a) r.tmps) r.assign r.body w (RQ w0 ρ res)
end Go.Lk
namespace Go.Lk
open Go.Eng Go.RowKit
section
variable {β : Type} {Pr : Program} {m : Nat}
def EXok (Pr : Program) (m : Nat) (g : EX β) (c : Code) : Prop := ∀ run, RunOK Pr run → ∀ rd rr w0 ρ σ ds h n kn kx r a w, RdR ρ rd rr → St w0 ρ m σ ds h n a w → g run rd σ ds h n kn kx = some r → c.wpIn (Fw rr) 0 Pr (PQ w0 ρ m r kn kx) a w
def FRok (Pr : Program) (m : Nat) (f : Nat → Option (EX β)) (c : Code) : Prop := ∀ l, (∀ g, f l = some g → ∃ rest, findLabel c l = some rest ∧ EXok Pr m g rest) ∧ (f l = none → findLabel c l = none)
theorem FRok.none {c : Code} (h : ∀ l, findLabel c l = none) : FRok (β := β) Pr m (fun _ => none) c := fun l => ⟨fun g e => (by cases e), fun _ => h l⟩
theorem KQ.here {w0 : Base} {ρ : Ren} {σ : T V} {ds : List D} {h : T Blk} {n : P} {a : Act} {w : World} {k : KN β} {r : β} (hs : St w0 ρ m σ ds h n a w) (e : k σ ds h n = some r) : KQ w0 ρ m r k a w := ⟨ρ, σ, ds, h, n, .refl _, hs, e⟩
theorem EXok.seq {g g' : EX β} {x y : Code} (hx : EXok Pr m g x) (hy : EXok Pr m g' y) : EXok Pr m (fun run rd σ ds h n kn kx => g run rd σ ds h n (fun σ ds h n => g' run rd σ ds h n kn kx) kx) (.seq x y) := by
  intro run hr rd rr w0 ρ σ ds h n kn kx r a w hrd hs e
  refine wpIn_seq (wpIn_mono (hx run hr rd rr w0 ρ σ ds h n _ kx r a w hrd hs e) fun x a w q => ?_)
  cases x with
  | normal =>
    obtain ⟨ρ', σ', ds', h', n', hle, hs', e'⟩ := q
    exact wpIn_mono (hy run hr rd rr w0 ρ' σ' ds' h' n' kn kx r a w (hrd.mono hle) hs' e') fun _ _ _ q => q.mono hle
  | exit => exact q
  | goto => exact q
  | ret => exact q
  | panic => exact q
  | outgrown => exact q
theorem EXok.block {g : EX β} {c : Code} (hc : EXok Pr m g c) (id : Nat) : EXok Pr m (blockX id g) (.block id c) := by
  intro run hr rd rr w0 ρ σ ds h n kn kx r a w hrd hs e
  refine wpIn_block (wpIn_mono (hc run hr rd rr w0 ρ σ ds h n _ _ r a w hrd hs e) fun x a w q => ?_)
  cases x with
  | normal => exact q
  | exit i =>
    simp only [Exit.inBlock]
    by_cases hi : i = id
    · subst hi
      simp only [PQ, Nat.beq_refl] at q
      rw [if_pos rfl]; exact q
    · have : Nat.beq i id = false := by cases hb : Nat.beq i id; rfl; exact absurd (Nat.eq_of_beq_eq_true hb) hi
      simp only [PQ, this] at q
      rw [if_neg hi]; exact q
  | goto => exact q
  | ret => exact q
  | panic => exact q
  | outgrown => exact q
theorem EXok.loop {g : EX β} {c : Code} (hc : EXok Pr m g c) : EXok Pr m (loopX g) (.loop c) := by
  intro run hr rd rr w0 ρ σ ds h n kn kx r a w hrd hs e
  refine wpIn_loopN (fun j a w => KQ w0 ρ m r (loopR g run rd kx j) a w) 1000000 (.here hs e) fun j a w q => ?_
  obtain ⟨ρ', σ', ds', h', n', hle, hs', e'⟩ := q
  cases j with
  | zero => cases e'
  | succ j =>
    refine wpIn_mono (hc run hr rd rr w0 ρ' σ' ds' h' n' _ kx r a w (hrd.mono hle) hs' e') fun x a w q => ?_
    have q := PQ.mono hle q
    cases x with
    | normal => exact ⟨j, Nat.lt_succ_self j, q⟩
    | exit => exact q
    | goto => exact q
    | ret => exact q
    | panic => exact q
    | outgrown => exact q
theorem EXok.scope {g : EX β} {f : Nat → Option (EX β)} {c : Code} (hc : EXok Pr m g c) (hf : FRok Pr m f c) : EXok Pr m (scopeX g f) (.scope c) := by
  intro run hr rd rr w0 ρ σ ds h n kn kx r a w hrd hs e
  refine wpIn_scopeN (fun j rest a w => ∃ g, EXok Pr m g rest ∧ KQ w0 ρ m r (scopeR run rd kn kx f j g) a w) 100000 ⟨g, hc, .here hs e⟩ fun j rest a w q => ?_
  obtain ⟨g, hg, ρ', σ', ds', h', n', hle, hs', e'⟩ := q
  cases j with
  | zero => cases e'
  | succ j =>
    refine wpIn_mono (hg run hr rd rr w0 ρ' σ' ds' h' n' _ _ r a w (hrd.mono hle) hs' e') fun x a w q => ?_
    have q := PQ.mono hle q
    cases x with
    | normal => exact q
    | exit => exact q
    | goto l =>
      simp only [PQ, scopeG] at q
      simp only [scopeQ]
      cases hfl : f l with
      | none =>
        rw [(hf l).2 hfl]
        rw [hfl] at q; exact q
      | some g' =>
        obtain ⟨rest', h1, h2⟩ := (hf l).1 g' hfl
        rw [h1]
        rw [hfl] at q
        exact ⟨j, Nat.lt_succ_self j, g', h2, q⟩
    | ret => exact q
    | panic => exact q
    | outgrown => exact q
theorem EXok.cond {g g' : EX β} {x y : Code} (hx : EXok Pr m g x) (hy : EXok Pr m g' y) (c : Operand) : EXok Pr m (fun run rd σ ds h n kn kx => evB c σ fun t => Bool.rec (g' run rd σ ds h n kn kx) (g run rd σ ds h n kn kx) t) (.cond c x y) := by
  intro run hr rd rr w0 ρ σ ds h n kn kx r a w hrd hs e
  unfold evB at e
  simp only [on_some, onBool_some] at e
  obtain ⟨_, hv, t, rfl, e⟩ := e
  obtain ⟨τ, dsr, rfl, hf, hd⟩ := hs.fr
  have hc := evO_sound hf hv
  simp only [Rv] at hc
  rw [← F_eval m τ dsr] at hc
  cases t with
  | true => exact wpIn_cond_true hc (hx run hr rd rr w0 ρ σ ds h n kn kx r _ w hrd hs e)
  | false => exact wpIn_cond_false hc (hy run hr rd rr w0 ρ σ ds h n kn kx r _ w hrd hs e)
/-- what is asked of the regions and of the ranges over functions -/
structure PartsOK (β : Type) (Pr : Program) (m : Nat) : Prop where
  region : ∀ id ops draw, EXok (β := β) Pr m (fun run rd σ ds h n kn _ => regX Pr ops draw run rd σ ds h n kn) (.region id ops draw)
  range : ∀ g ps asg body, EXok (β := β) Pr m (rangeX Pr m g ps.toList asg body) (.rangeFunc g ps asg body)
attribute [local irreducible] loopX scopeX blockX rangeX regX
theorem ex2_ok (hp : PartsOK β Pr m) : ∀ c : Code, EXok (β := β) Pr m (ex2 Pr m c).1 c ∧ FRok (β := β) Pr m (ex2 Pr m c).2 c := by
  intro c
  induction c with
  | skip => exact ⟨fun run hr rd rr w0 ρ σ ds h n kn kx r a w hrd hs e => wpIn_skip (KQ.here hs e), .none fun _ => rfl⟩
  | region id ops draw => exact ⟨hp.region id ops draw, .none fun _ => rfl⟩
  | seq x y ihx ihy =>
    refine ⟨(EXok.seq ihx.1 ihy.1 : EXok Pr m (fun run rd σ ds h n kn kx => (ex2 Pr m x).1 run rd σ ds h n (fun σ ds h n => (ex2 Pr m y).1 run rd σ ds h n kn kx) kx) (.seq x y)), fun l => ?_⟩
    have hl : (ex2 Pr m (.seq x y)).2 l = (Option.rec ((ex2 Pr m y).2 l) (fun g => some fun run rd σ ds h n kn kx => g run rd σ ds h n (fun σ ds h n => (ex2 Pr m y).1 run rd σ ds h n kn kx) kx) ((ex2 Pr m x).2 l) : Option (EX β)) := rfl
    rw [hl]
    cases hx : (ex2 (β := β) Pr m x).2 l with
    | none =>
      simp only [findLabel, (ihx.2 l).2 hx]
      exact ihy.2 l
    | some g =>
      obtain ⟨rest, h1, h2⟩ := (ihx.2 l).1 g hx
      simp only [findLabel, h1]
      exact ⟨fun g' e => by cases e; exact ⟨_, rfl, h2.seq ihy.1⟩, fun e => by cases e⟩
  | cond c x y ihx ihy => exact ⟨(EXok.cond ihx.1 ihy.1 c : EXok Pr m (fun run rd σ ds h n kn kx => evB c σ fun t => Bool.rec ((ex2 Pr m y).1 run rd σ ds h n kn kx) ((ex2 Pr m x).1 run rd σ ds h n kn kx) t) (.cond c x y)), .none fun _ => rfl⟩
  | block id c ih => exact ⟨(EXok.block ih.1 id : EXok Pr m (blockX id (ex2 Pr m c).1) (.block id c)), .none fun _ => rfl⟩
  | loop c ih => exact ⟨(EXok.loop ih.1 : EXok Pr m (loopX (ex2 Pr m c).1) (.loop c)), .none fun _ => rfl⟩
  | rangeFunc g ps asg body _ _ => exact ⟨hp.range g ps asg body, .none fun _ => rfl⟩
  | exit id => exact ⟨fun run hr rd rr w0 ρ σ ds h n kn kx r a w hrd hs e => wpIn_exit (KQ.here hs e), .none fun _ => rfl⟩
  | scope c ih => exact ⟨(EXok.scope ih.1 ih.2 : EXok Pr m (scopeX (ex2 Pr m c).1 (ex2 Pr m c).2) (.scope c)), .none fun _ => rfl⟩
  | label l =>
    refine ⟨fun run hr rd rr w0 ρ σ ds h n kn kx r a w hrd hs e => wpIn_label (KQ.here hs e), fun l' => ?_⟩
    have hl : (ex2 (β := β) Pr m (.label l)).2 l' = (Bool.rec none (some fun _ _ σ ds h n kn _ => kn σ ds h n) (Nat.beq l l') : Option (EX β)) := rfl
    rw [hl]
    by_cases e : l = l'
    · subst e
      simp only [Nat.beq_refl, findLabel, beq_self_eq_true, if_true]
      exact ⟨fun g e => by cases e; exact ⟨_, rfl, fun run hr rd rr w0 ρ σ ds h n kn kx r a w hrd hs e => wpIn_skip (KQ.here hs e)⟩, fun e => by cases e⟩
    · have : Nat.beq l l' = false := by cases hb : Nat.beq l l'; rfl; exact absurd (Nat.eq_of_beq_eq_true hb) e
      rw [this]
      have h2 : (l == l') = false := by simp [e]
      exact ⟨fun g e => (by cases e), fun _ => (by simp [findLabel, h2])⟩
  | goto l => exact ⟨fun run hr rd rr w0 ρ σ ds h n kn kx r a w hrd hs e => wpIn_goto (KQ.here hs e), .none fun _ => rfl⟩
  | ret => exact ⟨fun run hr rd rr w0 ρ σ ds h n kn kx r a w hrd hs e => wpIn_ret (KQ.here hs e), .none fun _ => rfl⟩
  | refuse _ => exact ⟨fun run hr rd rr w0 ρ σ ds h n kn kx r a w hrd hs e => (by cases e), .none fun _ => rfl⟩
end
end Go.Lk
namespace Go.Lk
open Go.Eng Go.RowKit
section
variable {β : Type} {Pr : Program} {m : Nat}
def OpsOK (β : Type) (Pr : Program) (m : Nat) : Prop := ∀ (op : Op) (ty : TypeId) (run : Run), RunOK Pr run → ∀ (rr : Option Nat) (w0 : Base) (ρ : Ren) (σ : T V) (τ : Nat → Value) (h : T Blk) (n : P) (k : V → T Blk → P → Option β) (r : β) (w : World),
  Fr ρ m σ τ → Rh w0 ρ h n w → opX Pr op run σ h n k = some r → isDefer op = false → ∀ (dst : Option Nat) (pos : String) (af : Array Edge) (g : Option (Nat × Bool)) (ds : List Deferred) (next : Act → World → Prop) (Q : Exit → Act → World → Prop),
  (∀ x w', Kx w0 ρ r k x w' → next ((F m τ ds).put dst x) w') → Oper.uponIn (Fw rr) 0 Pr ⟨dst, op, ty, pos, af, g⟩ (F m τ ds) next Q ((execOp (F m τ ds).eval ⟨dst, op, ty, pos, af, g⟩).run Pr w)
theorem put_fr {ρ : Ren} {σ : T V} {τ : Nat → Value} {dst : Option Nat} {v : V} {x : Value} {ds : List Deferred} (f : Fr ρ m σ τ) (hv : Rv ρ v x) : ∃ τ', (F m τ ds).put dst x = F m τ' ds ∧ Fr ρ m (putD dst v σ) τ' := by
  cases dst with
  | none => exact ⟨τ, rfl, f⟩
  | some d => exact ⟨_, F_put .., f.set hv d⟩
theorem All2.mono' {ρ ρ' : Ren} (h : ρ.le ρ') {ds : List D} {dsr : List Deferred} (a : All2 (Rd ρ) ds dsr) : All2 (Rd ρ') ds dsr := a.imp fun _ _ => Rd.mono h
/-- behind an operation, its value put down -/
theorem Kx.put {w0 : Base} {ρ : Ren} {r : β} {σ : T V} {τ : Nat → Value} {ds : List D} {dsr : List Deferred} {dst : Option Nat} {k : KN β} {x : Value} {w : World} (f : Fr ρ m σ τ) (hd : All2 (Rd ρ) ds dsr)
    (q : Kx w0 ρ r (fun v h n => k (putD dst v σ) ds h n) x w) : KQ w0 ρ m r k ((F m τ dsr).put dst x) w := by
  obtain ⟨ρ', v, h', n', hle, hp, hv, e⟩ := q
  obtain ⟨τ', h1, h2⟩ := put_fr (ds := dsr) (dst := dst) (f.mono hle) hv
  exact ⟨ρ', _, ds, h', n', hle, ⟨⟨τ', dsr, h1, h2, All2.mono' hle hd⟩, hp⟩, e⟩
theorem onGuard_some {r : β} {f : Bool → Option β} {g : Option β} {v : V} : V.onGuard f g v = some r ↔ (∃ b, v = .bool b ∧ f b = some r) ∨ (∃ l, v = .tup l ∧ g = some r) := by
  cases v <;> constructor <;> intro h <;> first | exact .inl ⟨_, rfl, h⟩ | exact .inr ⟨_, rfl, h⟩ | (rcases h with ⟨_, h, h'⟩ | ⟨_, h, h'⟩ <;> cases h <;> exact h') | cases h
theorem wanted_tup {ops : Array Oper} {τ : Nat → Value} {ds : List Deferred} {j t : Nat} {b : Bool} {dst : Option Nat} {op : Op} {ty : TypeId} {pos : String} {af : Array Edge} {a : Array Value} (hj : (ops[j]?).bind (·.dst) = some t) (ht : τ t = .tuple a) (hlt : t < m) :
    Region.wanted ⟨dst, op, ty, pos, af, some (j, b)⟩ (yielded ops (F m τ ds).tmps) = false := by
  simp only [Region.wanted, yielded, hj, F, Option.bind_some, mk_get, if_pos hlt, ht]
  rfl
def wpO (F : Fence) (Pr : Program) (ops : Array Oper) (o : Oper) (a : Act) (w : World) (K : Act → World → Prop) (Q : Exit → Act → World → Prop) : Prop :=
  if Region.wanted o (yielded ops a.tmps) then o.wpIn F 0 Pr a w K Q else (∀ f, o.about Pr w a.eval = some f → F.fn f) ∧ K (a.put o.dst undef) w
theorem semAt_fw {rr : Option Nat} {ev : Operand → Value} {o : Oper} (h : isDefer o.op = false) : o.semAt (Fw rr).round ev = execOp ev o := by
  cases rr with
  | none => exact Oper.semAt_none ev o
  | some l => exact Oper.semAt_some l ev o (fun c hc => by rw [hc] at h; cases h)
theorem oper_ok (hop : OpsOK β Pr m) {ops : Array Oper} {o : Oper} {run : Run} (hr : RunOK Pr run) {rd : Option P} {rr : Option Nat} {w0 : Base} {ρ : Ren} {σ : T V} {ds : List D} {h : T Blk} {n : P} {k : KN β} {r : β} {a : Act} {w : World}
    (hrd : RdR ρ rd rr) (hs : St w0 ρ m σ ds h n a w) (e : operX Pr ops o run rd σ ds h n k = some r) {K : Act → World → Prop} {Q : Exit → Act → World → Prop} (hK : ∀ a w, KQ w0 ρ m r k a w → K a w) : wpO (Fw rr) Pr ops o a w K Q := by
  obtain ⟨dst, op, ty, pos, af, g⟩ := o
  obtain ⟨τ, dsr, rfl, hf, hd⟩ := hs.fr
  have plain : ∀ g, isDefer op = false → opX Pr op run σ h n (fun v h n => k (putD dst v σ) ds h n) = some r → Oper.wpIn (Fw rr) 0 Pr ⟨dst, op, ty, pos, af, g⟩ (F m τ dsr) w K Q := by
    intro g hnd e
    refine ⟨fun f _ => Fw_fn rr f, ?_⟩
    rw [semAt_fw hnd]
    exact hop op ty run hr rr w0 ρ σ τ h n _ r w hf hs.hp e hnd dst pos af g dsr K Q fun x w' q => hK _ _ (q.put hf hd)
  cases g with
  | none =>
    unfold wpO
    simp only [Region.wanted, if_true]
    cases hnd : isDefer op with
    | false =>
      have e' : (Bool.rec (fun run _ σ ds h n k => opX Pr op run σ h n fun v h n => k (putD dst v σ) ds h n) (operQ Pr ⟨dst, op, ty, pos, af, none⟩) (isDefer op) : Run → Option P → T V → List D → T Blk → P → KN β → Option β) run rd σ ds h n k = some r := e
      rw [hnd] at e'
      exact plain none hnd e'
    | true =>
      have e' : (Bool.rec (fun run _ σ ds h n k => opX Pr op run σ h n fun v h n => k (putD dst v σ) ds h n) (operQ Pr ⟨dst, op, ty, pos, af, none⟩) (isDefer op) : Run → Option P → T V → List D → T Blk → P → KN β → Option β) run rd σ ds h n k = some r := e
      rw [hnd] at e'
      cases op <;> first | (cases hnd; done) | skip
      rename_i c
      obtain ⟨callee, as, ts⟩ := c
      cases callee with
      | invoke => cases e'
      | builtin => cases e'
      | value fo =>
        have e2 : (on (evO fo σ) fun f => on (evOs as.toList σ) fun as => V.onFn (fun f a b => Option.rec (k (putD dst undefV σ) (.call f (appL a (appL as b)) :: ds) h n) (fun _ => none) rd) (fun _ => none) f) = some r := e'
        simp only [on_some] at e2
        obtain ⟨fv, hfv, vs, hvs, e2⟩ := e2
        rw [onFn_some] at e2
        rcases e2 with ⟨g, x, y, rfl, e2⟩ | ⟨_, _, e2⟩
        · cases rd with
          | some _ => cases e2
          | none =>
            cases rr with
            | some _ => exact hrd.elim
            | none =>
              have hfr := evO_sound hf hfv
              simp only [Rv] at hfr
              obtain ⟨x', y', hfr, hx, hy⟩ := hfr
              have hvr := evOs_sound hf hvs
              refine ⟨fun f _ => trivial, ?_⟩
              have hsem : Oper.semAt (Fw none).round (F m τ dsr).eval ⟨dst, .defer { callee := .value fo, args := as, argTypes := ts }, ty, pos, af, none⟩ = execOp (F m τ dsr).eval ⟨dst, .defer { callee := .value fo, args := as, argTypes := ts }, ty, pos, af, none⟩ := Oper.semAt_none _ _
              rw [hsem, F_eval]
              have hrun : (execOp (ev m τ) ⟨dst, .defer { callee := .value fo, args := as, argTypes := ts }, ty, pos, af, none⟩).run Pr w = .ok (.defer { target := .fn (.func g) y', args := x' ++ as.map (ev m τ) }) w := by
                simp [execOp, resolve, hfr, Deferred.ofValue]
              rw [hrun, Oper.uponIn_defer]
              refine hK _ _ ?_
              obtain ⟨τ', h1, h2⟩ := put_fr (ds := { target := .fn (.func g) y', args := x' ++ as.map (ev m τ) } :: dsr) (dst := dst) hf Rv_undef
              refine ⟨ρ, _, _, h, n, .refl _, ⟨⟨τ', { target := .fn (.func g) y', args := x' ++ as.map (ev m τ) } :: dsr, ?_, h2, .cons ?_ hd⟩, hs.hp⟩, e2⟩
              · rw [← h1]; rfl
              · show Rd ρ (.call g (appL x (appL vs y))) _
                refine ⟨y', rfl, ?_⟩
                simp only [appL_eq, Array.toList_append, Array.toList_map, List.append_assoc]
                exact hx.append (hvr.append hy)
        · cases e2
  | some jb =>
    obtain ⟨j, b⟩ := jb
    have e' : (Option.rec (fun _ _ _ _ _ _ _ => none) (fun t => fun run rd σ ds h n k => on (T.get (pathOf t) σ)
      (V.onGuard (fun c => Bool.rec (k (putD dst undefV σ) ds h n) (opX Pr op run σ h n fun v h n => k (putD dst v σ) ds h n) (Bool.rec (bnot c) c b)) (k (putD dst undefV σ) ds h n))) ((ops[j]?).bind (·.dst)) : Run → Option P → T V → List D → T Blk → P → KN β → Option β) run rd σ ds h n k = some r := e
    cases hj : (ops[j]?).bind (·.dst) with
    | none => rw [hj] at e'; cases e'
    | some t =>
      rw [hj] at e'
      have e' : on (T.get (pathOf t) σ) (V.onGuard (fun c => Bool.rec (k (putD dst undefV σ) ds h n) (opX Pr op run σ h n fun v h n => k (putD dst v σ) ds h n) (Bool.rec (bnot c) c b)) (k (putD dst undefV σ) ds h n)) = some r := e'
      rw [on_some] at e'
      obtain ⟨v, hv, e'⟩ := e'
      obtain ⟨hlt, hvr⟩ := hf.get t v hv
      rw [onGuard_some] at e'
      have skip : k (putD dst undefV σ) ds h n = some r → K ((F m τ dsr).put dst undef) w := fun e => hK _ _ (Kx.put hf hd ⟨ρ, undefV, h, n, .refl _, hs.hp, Rv_undef, e⟩)
      rcases e' with ⟨c, rfl, e'⟩ | ⟨l, rfl, e'⟩
      · simp only [Rv] at hvr
        have hw : Region.wanted ⟨dst, op, ty, pos, af, some (j, b)⟩ (yielded ops (F m τ dsr).tmps) = (c == b) :=
          wanted_of hj (by have : Nat.blt t m = true := by rw [Nat.blt_eq]; exact hlt
                           simp only [ev, this, cond_true]; exact hvr) hlt
        unfold wpO
        rw [hw]
        have go : isDefer op = false ∨ isDefer op = true := by cases isDefer op <;> simp
        have nodef : opX Pr op run σ h n (fun v h n => k (putD dst v σ) ds h n) = some r → isDefer op = false := fun e => by cases op <;> first | rfl | cases e
        cases b <;> cases c <;> simp only [bnot] at e'
        · exact plain _ (nodef e') e'
        · exact ⟨fun f _ => Fw_fn rr f, skip e'⟩
        · exact ⟨fun f _ => Fw_fn rr f, skip e'⟩
        · exact plain _ (nodef e') e'
      · simp only [Rv] at hvr
        obtain ⟨a, ha, _⟩ := hvr
        unfold wpO
        rw [wanted_tup hj ha hlt]
        exact ⟨fun f _ => Fw_fn rr f, skip e'⟩
theorem opers_ok (hop : OpsOK β Pr m) {ops : Array Oper} {run : Run} (hr : RunOK Pr run) {rd : Option P} {rr : Option Nat} {w0 : Base} {r : β} {Q : Exit → Act → World → Prop} : ∀ (l : List Oper) {ρ : Ren} {σ : T V} {ds : List D} {h : T Blk} {n : P} {k : KN β} {a : Act} {w : World},
    RdR ρ rd rr → St w0 ρ m σ ds h n a w → opersX Pr ops l run rd σ ds h n k = some r → (∀ a w, KQ w0 ρ m r k a w → Q .normal a w) → wpListIn (Fw rr) 0 Pr ops Q l a w
  | [], ρ, σ, ds, h, n, k, a, w, hrd, hs, e, hQ => hQ _ _ (.here hs e)
  | o :: l, ρ, σ, ds, h, n, k, a, w, hrd, hs, e, hQ => by
    have e : operX Pr ops o run rd σ ds h n (fun σ ds h n => opersX Pr ops l run rd σ ds h n k) = some r := e
    exact oper_ok hop hr hrd hs e fun a w q => by
      obtain ⟨ρ', σ', ds', h', n', hle, hs', e'⟩ := q
      exact opers_ok hop hr l (hrd.mono hle) hs' e' fun a w q => hQ _ _ (q.mono hle)
theorem region_plain (hop : OpsOK β Pr m) (id : Nat) (ops : Array Oper) : EXok (β := β) Pr m (fun run rd σ ds h n kn _ => regX Pr ops false run rd σ ds h n kn) (.region id ops false) := by
  intro run hr rd rr w0 ρ σ ds h n kn kx r a w hrd hs e
  exact wpIn_region_list (opers_ok hop hr ops.toList hrd hs e fun a w q => q)
end
end Go.Lk
namespace Go.Lk
open Go.Eng Go.RowKit
theorem enters_spec {Pr : Program} {f : FuncId} {fc : Func × Code} (h : enters Pr f = some fc) : Pr.funcs[f]? = some fc.1 ∧ fc.1.body = some fc.2 ∧ CF Pr f := by
  unfold enters at h
  split at h
  · rename_i fn hf
    split at h
    · rename_i c hc
      split at h
      · cases h
      · rename_i hn
        cases h
        refine ⟨hf, hc, fun args w => ?_⟩
        simp [callFunc, Sem.run_bind, hf, hn, hc]
    · cases h
  · cases h
theorem putArgs_get : ∀ (l : List V) (i : Nat) (σ : T V) (t : Nat), T.get (pathOf t) (putArgs l (pathOf i) σ) = if i ≤ t ∧ t < i + l.length then (T.get (pathOf t) σ).bind fun _ => l[t - i]? else T.get (pathOf t) σ
  | [], i, σ, t => by rw [if_neg (by simp only [List.length_nil]; omega)]; rfl
  | v :: l, i, σ, t => by
    show T.get (pathOf t) (putArgs l (pathOf (i + 1)) (T.set v (pathOf i) σ)) = _
    rw [putArgs_get l (i + 1), T.get_set]
    by_cases h : t = i
    · subst h
      rw [if_neg (by omega), if_pos rfl, if_pos ⟨Nat.le_refl _, by simp⟩]
      simp only [Nat.sub_self, List.getElem?_cons_zero]
      cases T.get (pathOf t) σ <;> rfl
    · rw [if_neg (fun e => h (pathOf_inj e))]
      by_cases h2 : i + 1 ≤ t ∧ t < i + 1 + l.length
      · rw [if_pos h2, if_pos ⟨by omega, by simp only [List.length_cons]; omega⟩]
        rw [show t - i = (t - (i + 1)) + 1 by omega]; rfl
      · rw [if_neg h2, if_neg (by simp only [List.length_cons]; omega)]
theorem putArgs_fr {ρ : Ren} {l : List V} {xs : List Value} (h : Rvs ρ l xs) {m : Nat} (hm : l.length ≤ m) : Fr ρ m (putArgs l .z (initT m)) (init xs) := by
  refine ⟨fun t v e => ?_⟩
  have e : T.get (pathOf t) (putArgs l (pathOf 0) (initT m)) = some v := e
  rw [putArgs_get, initT_get] at e
  have hl := h.length
  by_cases h1 : t < l.length
  · rw [if_pos ⟨Nat.zero_le _, by omega⟩, if_pos (by omega)] at e
    simp only [Option.bind_some, Nat.sub_zero] at e
    obtain ⟨x, hx, hv⟩ := h.get' e
    refine ⟨by omega, ?_⟩
    rw [init, List.getD_eq_getElem?_getD, hx]; exact hv
  · rw [if_neg (by omega)] at e
    split at e
    · rename_i h2
      cases e
      refine ⟨h2, ?_⟩
      rw [init, List.getD_eq_getElem?_getD, List.getElem?_eq_none (by omega)]
      exact Rv_undef
    · cases e
theorem entry_act {args : Array Value} {m : Nat} (h : args.size ≤ m) : ({ tmps := args ++ Array.replicate (m - args.size) undef, defers := [] } : Act) = F m (init args.toList) [] := by
  unfold F
  congr 1
  apply Array.ext_getElem?
  intro t
  rw [mk_get, Array.getElem?_append]
  simp only [init, List.getD_eq_getElem?_getD, Array.getElem?_toList]
  by_cases h1 : t < args.size
  · simp [h1, Nat.lt_of_lt_of_le h1 h]
  · simp only [h1, if_false, Array.getElem?_replicate]
    rw [Array.getElem?_eq_none (Nat.le_of_not_lt h1)]
    by_cases h2 : t < m
    · have : t - args.size < m - args.size := by omega
      simp [h2, this]
    · have : ¬ t - args.size < m - args.size := by omega
      simp [h2, this]
def resOf (tmps : Array Value) : ResultVar → Sem Value
  | .tmp t => pure (tmps.getD t undef)
  | .cell a t => do loadVar t (← asAddr (tmps.getD a undef))
theorem results_eq (fn : Func) (tmps : Array Value) : results fn tmps = (do let vs ← fn.results.mapM (resOf tmps); pure (if h : vs.size = 1 then vs[0] else .tuple vs)) := by
  unfold results
  congr 1
section
variable {Pr : Program}
/-- a cell's variable, loaded -/
theorem loadQ_run {w0 : Base} {w : World} {ρ : Ren} {h : T Blk} {n : P} {t : TypeId} {g : Option Nat} {p v : V} {pv : Value} (H : Rh w0 ρ h n w) (hg : aggT Pr t = some g) (hp : Rv ρ p pv) (e : loadQ g p h = some v) : ∃ u, ((do loadVar t (← asAddr pv)) : Sem Value).run Pr w = .ok u w ∧ Rv ρ v u := by
  have key : ∀ u, Ex Pr (ev 1 (fun _ => pv)) w (.load t (.tmp 0)) 0 u → ((do loadVar t (← asAddr pv)) : Sem Value).run Pr w = .ok u w := by
    intro u hx
    have h0 := hx none "" #[] none
    have hev : ev 1 (fun _ => pv) (.tmp 0) = pv := rfl
    simp only [execOp, hev, Instr.loadAt, Sem.run_bind] at h0
    cases pv <;> first | (simp [Instr.sureAddr] at h0; done) | skip
    rename_i a
    cases a with
    | none => simp [Instr.sureAddr] at h0
    | some a =>
      simp only [Instr.sureAddr, Sem.run_pure, Result.andThen_ok] at h0
      simp only [Sem.run_bind, asAddr, Sem.run_pure, Result.andThen_ok]
      cases hl : (loadVar t a).run Pr w with
      | ok x w' => rw [hl] at h0; simp only [Result.andThen_ok, Sem.run_pure] at h0; cases h0; rfl
      | halt x w' => rw [hl] at h0; simp [Result.andThen] at h0
  have hf : Fr ρ 1 (T.put (some p) .z .e) (fun _ => pv) := ⟨fun t v e => by
    rw [T.get_put] at e
    split at e
    · rename_i h0
      cases e
      have : t = 0 := pathOf_inj h0
      exact ⟨by omega, hp⟩
    · simp at e⟩
  obtain ⟨u, hu, hv⟩ := s_load (Pr := Pr) (ty := 0) H hf (a := .tmp 0) hg (v := v) (by
    have h1 : evO (.tmp 0) (T.put (some p) .z .e) = T.get P.z (T.put (some p) .z .e) := rfl
    have : evO (.tmp 0) (T.put (some p) .z .e) = some p := by rw [h1]; exact T.get_put_same _ _ _
    rw [this]; exact e)
  exact ⟨u, key u hu, hv⟩
theorem resX_run {w0 : Base} {w : World} {ρ : Ren} {m : Nat} {σ : T V} {τ : Nat → Value} {h : T Blk} {n : P} (H : Rh w0 ρ h n w) (hf : Fr ρ m σ τ) : ∀ (rs : List ResultVar) (l : List V), resX Pr rs σ h = some l →
    ∃ xs : List Value, (rs.mapM (resOf (mk m τ))).run Pr w = .ok xs w ∧ Rvs ρ l xs
  | [], l, e => by
    have e : (some [] : Option (List V)) = some l := e
    cases e
    exact ⟨[], by simp, by simp only [Rvs]⟩
  | .tmp t :: rs, l, e => by
    have e : (on (T.get (pathOf t) σ) fun v => on (resX Pr rs σ h) fun l => some (v :: l)) = some l := e
    simp only [on_some] at e
    obtain ⟨v, hv, l', hl', e⟩ := e
    cases e
    obtain ⟨h1, h2⟩ := hf.get t v hv
    obtain ⟨xs, hx, hr⟩ := resX_run H hf rs l' hl'
    refine ⟨τ t :: xs, ?_, by simp only [Rvs]; exact ⟨_, _, rfl, h2, hr⟩⟩
    have : (mk m τ).getD t undef = τ t := by rw [mk_getD]; have : Nat.blt t m = true := by rw [Nat.blt_eq]; exact h1
                                             simp [this]
    simp only [List.mapM_cons, resOf, Sem.run_bind, Sem.run_pure, Result.andThen_ok, this, hx]
  | .cell a t :: rs, l, e => by
    have e : (Option.rec (fun _ _ => none) (fun g σ h => on (T.get (pathOf a) σ) fun p => on (loadQ g p h) fun v => on (resX Pr rs σ h) fun l => some (v :: l)) (aggT Pr t) : T V → T Blk → Option (List V)) σ h = some l := e
    cases hg : aggT Pr t with
    | none => rw [hg] at e; cases e
    | some g =>
      rw [hg] at e
      have e : (on (T.get (pathOf a) σ) fun p => on (loadQ g p h) fun v => on (resX Pr rs σ h) fun l => some (v :: l)) = some l := e
      simp only [on_some] at e
      obtain ⟨p, hp, v, hv, l', hl', e⟩ := e
      cases e
      obtain ⟨h1, h2⟩ := hf.get a p hp
      have : (mk m τ).getD a undef = τ a := by rw [mk_getD]; have : Nat.blt a m = true := by rw [Nat.blt_eq]; exact h1
                                               simp [this]
      obtain ⟨u, hu, hur⟩ := loadQ_run (Pr := Pr) H hg h2 hv
      obtain ⟨xs, hx, hr⟩ := resX_run H hf rs l' hl'
      refine ⟨u :: xs, ?_, by simp only [Rvs]; exact ⟨_, _, rfl, hur, hr⟩⟩
      simp only [Sem.run_bind] at hu
      simp only [List.mapM_cons, resOf, Sem.run_bind, Sem.run_pure, this, hu, Result.andThen_ok, hx]
theorem results_run {w0 : Base} {w : World} {ρ : Ren} {fn : Func} {m : Nat} {σ : T V} {τ : Nat → Value} {h : T Blk} {n : P} (H : Rh w0 ρ h n w) (hf : Fr ρ m σ τ) {l : List V} (e : resX Pr fn.results.toList σ h = some l) :
    ∃ x, (results fn (mk m τ)).run Pr w = .ok x w ∧ Rv ρ (oneR l) x := by
  obtain ⟨xs, hx, hr⟩ := resX_run H hf _ _ e
  rw [results_eq, Array.mapM_eq_mapM_toList]
  simp only [Sem.run_bind, Sem.run_map, hx, Result.andThen_ok, Sem.run_pure]
  cases hr' : l with
  | nil => subst hr'; simp only [Rvs] at hr; subst hr; exact ⟨_, rfl, by simp only [oneR, Rv]; exact ⟨#[], rfl, by simp only [Rvs]⟩⟩
  | cons v l' =>
    subst hr'
    have hr2 := hr
    simp only [Rvs] at hr
    obtain ⟨y, ys, rfl, hv, hr⟩ := hr
    cases l' with
    | nil => simp only [Rvs] at hr; subst hr; exact ⟨y, rfl, hv⟩
    | cons u l' =>
      simp only [Rvs] at hr
      obtain ⟨z, zs, rfl, hu, hr⟩ := hr
      refine ⟨.tuple (y :: z :: zs).toArray, by simp, ?_⟩
      show Rv ρ (.tup (v :: u :: l')) _
      simp only [Rv]
      exact ⟨_, rfl, by simpa using hr2⟩
/-- code, from its parts -/
abbrev CodeOK (Pr : Program) : Prop := ∀ (m : Nat) (c : Code), EXok (β := Res) Pr m (exec Pr m c) c
theorem leaves_sound {run : Run} (hr : RunOK Pr run) {w0 : Base} {fn : Func} {m : Nat} {σ : T V} {τ : Nat → Value} {res : Res} : ∀ (ds : List D) (dsr : List Deferred) (ρ : Ren) (h : T Blk) (n : P) (w : World) (ρ0 : Ren),
    All2 (Rd ρ) ds dsr → Fr ρ m σ τ → Rh w0 ρ h n w → ρ0.le ρ → putOff run ds h n (fun h n => on (resX Pr fn.results.toList σ h) fun l => some (oneR l, h, n)) = some res →
    LeavesInM Fence.wide 0 Pr fn (mk m τ) (RQ w0 ρ0 res) dsr .returning w
  | [], dsr, ρ, h, n, w, ρ0, hd, hf, H, hle, e => by
    cases hd
    have e : (on (resX Pr fn.results.toList σ h) fun l => some (oneR l, h, n)) = some res := e
    rw [on_some] at e
    obtain ⟨l, hl, e⟩ := e
    cases e
    obtain ⟨x, hx, hv⟩ := results_run (Pr := Pr) (fn := fn) H hf hl
    exact ⟨x, hx, x, ρ, rfl, hle, H, hv⟩
  | .call f as :: ds, dsr, ρ, h, n, w, ρ0, hd, hf, H, hle, e => by
    cases hd with
    | cons hd0 hd1 =>
      rename_i d dsr
      obtain ⟨cap, ht, hv⟩ := hd0
      have e : (on (run (.dcall f as) h n) fun r => putOff run ds r.2.1 r.2.2 (fun h n => on (resX Pr fn.results.toList σ h) fun l => some (oneR l, h, n))) = some res := e
      rw [on_some] at e
      obtain ⟨r, h1, e⟩ := e
      obtain ⟨hc, hcall⟩ := hr.dcall f as h n r h1 w0 ρ w (d.args ++ cap) H hv
      refine ⟨by simp, .inr ⟨(by intro h; cases h), .func f, cap, f, d.args ++ cap, ht, ?_, fun _ _ => trivial, (hcall .returning).mono fun e' u' w' q => ?_⟩⟩
      · rw [ht]; simp only [invoke]; exact hc _ _
      · obtain ⟨rfl, x, ρ', rfl, hle', H', _⟩ := q
        show LeavesInM Fence.wide 0 Pr fn (mk m τ) _ dsr (settle .returning) w'
        exact leaves_sound hr ds dsr ρ' r.2.1 r.2.2 w' ρ0 (All2.mono' hle' hd1) (hf.mono hle') H' (hle.trans hle') e
  | .mark b :: ds, dsr, ρ, h, n, w, ρ0, hd, hf, H, hle, e => by
    cases hd with
    | cons hd0 hd1 =>
      rename_i d dsr
      obtain ⟨L, hL, ht⟩ := hd0
      have e : (on (T.get b h) (Blk.onDfr fun live => Bool.rec none (putOff run ds (T.put (some (.dfr false)) b h) n (fun h n => on (resX Pr fn.results.toList σ h) fun l => some (oneR l, h, n))) live)) = some res := e
      simp only [on_some, onDfr_some, ifT_some] at e
      obtain ⟨B, hB, live, rfl, rfl, e⟩ := e
      have hl := H.live b _ L hB hL
      have hl : w.heap[L.c]? = some (.deferred (some [])) := hl
      have hp : Pt w (w.putObj L.c (.deferred none)) L.c (.deferred none) := ⟨(Array.getElem?_eq_some_iff.1 hl).1, rfl⟩
      refine ⟨by simp, .inl ⟨L.c, _, ht, run_takeDeferred hl, ?_⟩⟩
      exact leaves_sound hr ds dsr ρ _ n _ ρ0 hd1 hf (H.turn hB hL hp (by simp [Rb])) hle e
theorem body_sound (hcode : CodeOK Pr) {run : Run} (hr : RunOK Pr run) {f : FuncId} {fc : Func × Code} (_ : enters Pr f = some fc) {as : List V} {h : T Blk} {n : P} {res : Res} {w0 : Base} {w : World} {ρ : Ren} {args : Array Value} (H : Rh w0 ρ h n w) (hv : Rvs ρ as args.toList) {k : Run → KN Res}
    (e : bodyX Pr fc.1 fc.2 k run as h n = some res) : fc.2.wpIn Fence.wide 0 Pr (PQ w0 ρ fc.1.ntmps res (k run) (onlyRet (k run))) { tmps := args ++ Array.replicate (fc.1.ntmps - args.size) undef, defers := [] } w := by
  unfold bodyX at e
  rw [ifT_some, lenL_eq] at e
  obtain ⟨hl, e⟩ := e
  have hl := Nat.le_of_ble_eq_true hl
  have hsz : args.size = as.length := by have := hv.length; simpa using this
  rw [entry_act (by omega)]
  exact hcode fc.1.ntmps fc.2 run hr none none w0 ρ _ [] h n _ _ res _ w trivial ⟨⟨_, [], rfl, putArgs_fr hv hl, .nil⟩, H⟩ e
theorem call_sound (hcode : CodeOK Pr) {run : Run} (hr : RunOK Pr run) {f : FuncId} {fc : Func × Code} (hfc : enters Pr f = some fc) {as : List V} {h : T Blk} {n : P} {res : Res} {w0 : Base} {w : World} {ρ : Ren} {args : Array Value} (H : Rh w0 ρ h n w) (hv : Rvs ρ as args.toList)
    (e : bodyX Pr fc.1 fc.2 (leaveX Pr fc.1) run as h n = some res) : CallsIn Fence.wide 0 Pr f args w (RQ w0 ρ res) := by
  obtain ⟨h1, h2, _⟩ := enters_spec hfc
  refine callsIn_of_wp_marks h1 h2 trivial (wpIn_mono (body_sound hcode hr hfc H hv e) fun x a w' q => ?_)
  have key : KQ w0 ρ fc.1.ntmps res (leaveX Pr fc.1 run) a w' → LeavesInM Fence.wide 0 Pr fc.1 a.tmps (RQ w0 ρ res) a.defers .returning w' := by
    rintro ⟨ρ', σ, ds, h', n', hle, ⟨⟨τ, dsr, rfl, hf, hd⟩, H'⟩, e'⟩
    exact leaves_sound hr ds dsr ρ' h' n' w' ρ hd hf H' hle e'
  cases x with
  | normal => exact key q
  | ret => exact key q
  | exit i => obtain ⟨_, _, _, _, _, _, _, e⟩ := q; cases e
  | goto i => obtain ⟨_, _, _, _, _, _, _, e⟩ := q; cases e
  | panic => exact q.elim
  | outgrown => exact q.elim
theorem dcall_sound (hcode : CodeOK Pr) {run : Run} (hr : RunOK Pr run) {f : FuncId} {fc : Func × Code} (hfc : enters Pr f = some fc) {as : List V} {h : T Blk} {n : P} {res : Res} {w0 : Base} {w : World} {ρ : Ren} {args : Array Value} (H : Rh w0 ρ h n w) (hv : Rvs ρ as args.toList)
    (e : bodyX Pr fc.1 fc.2 (fun _ => leave0 Pr fc.1) run as h n = some res) (u : FrameMode) : CallsDIn Fence.wide 0 Pr f args u w fun e u' w' => u' = u ∧ RQ w0 ρ res e w' := by
  obtain ⟨h1, h2, _⟩ := enters_spec hfc
  refine callsDIn_of_wp h1 h2 trivial (wpIn_mono (body_sound hcode hr hfc H hv e) fun x a w' q => ?_)
  have key : KQ w0 ρ fc.1.ntmps res (leave0 Pr fc.1) a w' → a.defers = [] ∧ ∃ v, (results fc.1 a.tmps).run Pr w' = .ok v w' ∧ RQ w0 ρ res (.returned v) w' := by
    rintro ⟨ρ', σ, ds, h', n', hle, ⟨⟨τ, dsr, rfl, hf, hd⟩, H'⟩, e'⟩
    cases hd with
    | cons => cases e'
    | nil =>
      have e : (on (resX Pr fc.1.results.toList σ h') fun l => some (oneR l, h', n')) = some res := e'
      rw [on_some] at e
      obtain ⟨l, hl, e⟩ := e
      cases e
      obtain ⟨x, hx, hv⟩ := results_run (Pr := Pr) (fn := fc.1) H' hf hl
      exact ⟨rfl, x, hx, x, ρ', rfl, hle, H', hv⟩
  cases x with
  | normal => exact key q
  | ret => exact key q
  | exit i => obtain ⟨_, _, _, _, _, _, _, e⟩ := q; cases e
  | goto i => obtain ⟨_, _, _, _, _, _, _, e⟩ := q; cases e
  | panic => exact q.elim
  | outgrown => exact q.elim
/-! ### Rounds -/
theorem zipPut_fr {ρ : Ren} {m : Nat} : ∀ (ps : List Nat) (as : List V) (xs : List Value) (σ : T V) (arr : Array Value), Rvs ρ as xs → arr.size = m → (∀ t v, T.get (pathOf t) σ = some v → ∃ x, arr[t]? = some x ∧ Rv ρ v x) →
    ((ps.zip xs).foldl (fun tmps (t, a) => tmps.setIfInBounds t a) arr).size = m ∧ ∀ t v, T.get (pathOf t) (zipPut ps as σ) = some v → ∃ x, ((ps.zip xs).foldl (fun tmps (t, a) => tmps.setIfInBounds t a) arr)[t]? = some x ∧ Rv ρ v x
  | [], as, xs, σ, arr, hv, hs, hf => ⟨hs, hf⟩
  | p :: ps, [], xs, σ, arr, hv, hs, hf => by simp only [Rvs] at hv; subst hv; exact ⟨hs, hf⟩
  | p :: ps, v :: as, xs, σ, arr, hv, hs, hf => by
    simp only [Rvs] at hv
    obtain ⟨x, r, rfl, hv, hr⟩ := hv
    refine zipPut_fr ps as r (T.set v (pathOf p) σ) (arr.setIfInBounds p x) hr (by simpa using hs) fun t u e => ?_
    rw [T.get_set] at e
    by_cases h : pathOf t = pathOf p
    · rw [if_pos h] at e
      have h := pathOf_inj h; subst h
      cases hg : T.get (pathOf t) σ with
      | none => rw [hg] at e; cases e
      | some y =>
        rw [hg] at e; cases e
        obtain ⟨z, hz, _⟩ := hf t y hg
        exact ⟨x, by rw [Array.getElem?_setIfInBounds_self, if_pos (Array.getElem?_eq_some_iff.1 hz).1], hv⟩
    · rw [if_neg h] at e
      obtain ⟨z, hz, hzv⟩ := hf t u e
      exact ⟨z, by rw [Array.getElem?_setIfInBounds_ne (fun e => h (by rw [e])), hz], hzv⟩
theorem round_sound (hcode : CodeOK Pr) {run : Run} (hr : RunOK Pr run) {l : P} {as : List V} {h : T Blk} {n : P} {res : Res} (e : roundF Pr run l as h n = some res) {w0 : Base} {w : World} {ρ : Ren} {args : Array Value} {L : Loc} (H : Rh w0 ρ h n w) (hv : Rvs ρ as args.toList) (hL : ρ l = some L) :
    ∃ r, w.heap[L.c]? = some (.loop r) ∧ args.size = r.params.size ∧ RoundIn Fence.wide 0 Pr L.c r.fn ((r.params.zip args).foldl (fun tmps (t, a) => tmps.setIfInBounds t a) r.tmps) r.assign r.body w (RQ w0 ρ res) := by
  unfold roundF at e
  simp only [on_some, onLoop_some] at e
  obtain ⟨B, hB, st, p, σ, m, ps, asg, body, d, rfl, e⟩ := e
  rw [ifT_some] at e
  obtain ⟨hlen, e⟩ := e
  obtain ⟨r, hr1, hr2, hr3, hr4, hr5, hr6, hr7, hr8, hr9⟩ := H.live l _ L hB hL
  have hsz : args.size = as.length := by have := hv.length; simpa using this
  have hps : r.params.size = ps.length := by rw [← hr4]; simp
  refine ⟨r, hr1, ?_, ?_⟩
  · have := Nat.eq_of_beq_eq_true hlen
    simp only [lenL_eq] at this
    omega
  have hz := zipPut_fr ps as args.toList σ r.tmps hv hr7 hr8
  have hfold : (r.params.zip args).foldl (fun tmps (t, a) => tmps.setIfInBounds t a) r.tmps = (ps.zip args.toList).foldl (fun tmps (t, a) => tmps.setIfInBounds t a) r.tmps := by
    rw [← Array.foldl_toList, Array.toList_zip, hr4]
  rw [hfold]
  generalize (ps.zip args.toList).foldl (fun tmps (t, a) => tmps.setIfInBounds t a) r.tmps = arr at hz ⊢
  obtain ⟨hz1, hz2⟩ := hz
  have hact : ({ tmps := arr, defers := [] } : Act) = F m (fun t => arr.getD t undef) [] := by
    unfold F
    congr 1
    apply Array.ext_getElem?
    intro t
    rw [mk_get]
    by_cases ht : t < m
    · rw [if_pos ht, Array.getD_eq_getD_getElem?, Array.getElem?_eq_getElem (by omega)]; rfl
    · rw [if_neg ht, Array.getElem?_eq_none (by omega)]
  have hfr : Fr ρ m (zipPut ps as σ) (fun t => arr.getD t undef) := ⟨fun t v e => by
    obtain ⟨x, hx, hxv⟩ := hz2 t v e
    have := (Array.getElem?_eq_some_iff.1 hx).1
    exact ⟨by omega, by rw [Array.getD_eq_getD_getElem?, hx]; exact hxv⟩⟩
  subst hr5 hr6
  refine roundIn_of_wpIn trivial ?_
  rw [hact]
  have hrd : RdR ρ (some l) (some L.c) := ⟨L, hL, rfl⟩
  refine wpIn_mono (hcode m r.assign run hr (some l) (some L.c) w0 ρ _ [] h n _ _ res _ w hrd ⟨⟨_, [], rfl, hfr, .nil⟩, H⟩ e) fun x a w1 q => ?_
  cases x with
  | exit i => obtain ⟨_, _, _, _, _, _, _, e⟩ := q; cases e
  | goto i => obtain ⟨_, _, _, _, _, _, _, e⟩ := q; cases e
  | ret => obtain ⟨_, _, _, _, _, _, _, e⟩ := q; cases e
  | panic => exact q.elim
  | outgrown => exact q.elim
  | normal =>
    obtain ⟨ρ1, σ1, ds1, h1, n1, hle1, hs1, e1⟩ := q
    simp only [on_some, onLoop_some] at e1
    obtain ⟨B1, hB1, st1, pend1, σ0, m0, ps0, a0, b0, d0, rfl, e1⟩ := e1
    cases st1 <;> first | cases e1 | skip
    obtain ⟨r1, q1, q2, q3, q4, q5, q6, q7, q8, q9⟩ := hs1.hp.live l _ L hB1 (hle1 _ _ hL)
    have hp : Pt w1 (w1.putObj L.c (.loop { r1 with state := .busy })) L.c (.loop { r1 with state := .busy }) := ⟨(Array.getElem?_eq_some_iff.1 q1).1, rfl⟩
    refine ⟨_, run_beginRound q1 q2, ?_⟩
    have H2 := hs1.hp.turn hB1 (hle1 _ _ hL) hp (B := .loop .busy pend1 σ0 m0 ps0 a0 b0 d0) ⟨_, rfl, rfl, q3, q4, q5, q6, q7, q8, q9⟩
    refine wpIn_mono (hcode m r.body run hr (some l) (some L.c) w0 ρ1 σ1 ds1 _ n1 _ _ res _ _ (hrd.mono hle1) ⟨hs1.fr, H2⟩ e1) fun x a2 w2 q => ?_
    have fin : ∀ (j : Option X), KQ w0 ρ1 m res (fun _ _ h n => endRound l j h n) a2 w2 → ∃ v w', (Instr.endRound L.c (j.map X.code)).run Pr w2 = .ok v w' ∧ RQ w0 ρ res (.returned v) w' := by
      rintro j ⟨ρ2, σ2, ds2, h2, n2, hle2, hs2, e2⟩
      simp only [endRound, on_some, onLoop_some] at e2
      obtain ⟨B2, hB2, st2, pend2, σ3, m3, ps3, a3, b3, d3, rfl, e2⟩ := e2
      cases e2
      have hL2 := hle2 _ _ (hle1 _ _ hL)
      obtain ⟨r2, t1, t2, t3, t4, t5, t6, t7, t8, t9⟩ := hs2.hp.live l _ L hB2 hL2
      refine ⟨_, _, run_endRound (P := Pr) (j.map X.code) t1, _, ρ2, rfl, hle1.trans hle2, hs2.hp.turn hB2 hL2 ⟨(Array.getElem?_eq_some_iff.1 t1).1, rfl⟩ ⟨_, rfl, ?_, rfl, t4, t5, t6, t7, t8, t9⟩, ?_⟩
      · cases j <;> rfl
      · simp only [Rv]; cases j <;> rfl
    cases x with
    | normal => exact fin none q
    | exit i => exact fin (some (.exit i)) q
    | goto i => exact fin (some (.goto i)) q
    | ret => exact fin (some .ret) q
    | panic => exact q.elim
    | outgrown => exact q.elim
end
end Go.Lk
namespace Go.Lk
open Go.Eng Go.RowKit
theorem run_enterLoop_inner' {P : Program} {w : World} {l₀ : Nat} {r₀ : Loop} (h : w.heap[l₀]? = some (.loop r₀)) (fn : FuncId) (tmps : Array Value) (ps : Array Tmp) (assign body : Code) :
    (Instr.enterLoop fn tmps ps assign body (some l₀)).run P w =
      .ok (w.heap.size, []) (w.alloc (.loop { state := .ready, pending := none, fn, tmps, params := ps, assign, body, defers := r₀.defers })) := by
  unfold Instr.enterLoop
  simp only [Sem.run_bind, run_getLoop h, run_newObj_alloc, Result.andThen, Sem.run_pure]
section
variable {β : Type} {Pr : Program} {m : Nat}
/-- behind the block for what rounds put off: the record, the one call, the jump that is left -/
theorem range_go {run : Run} (hr : RunOK Pr run) {go : Operand} {ps : Array Tmp} {asg body : Code} {rd : Option P} {rr : Option Nat} {w0 : Base} {w w1 : World} {ρ0 ρ : Ren} {σ : T V} {τ : Nat → Value} {ds : List D} {dsr : List Deferred} {h : T Blk} {l d : P} {gv : V} {kn : KN β} {kx : X → KN β} {r : β} {rec : Loop} {D : Loc}
    (hle0 : ρ0.le ρ) (hf : Fr ρ m σ τ) (hd : All2 (Rd ρ) ds dsr) (H : Rh w0 ρ h l w) (hal : Al w w1 (.loop rec)) (hrec : rec.state = .ready ∧ rec.pending = none ∧ rec.tmps = mk m τ ∧ rec.params = ps ∧ rec.assign = asg ∧ rec.body = body ∧ ρ d = some D ∧ rec.defers = D.c)
    (hg : Rv ρ gv (ev m τ go))
    (e : V.onFn (fun f a b => on (enters Pr f) fun _ => on (run (.call f (appL a (.yield l :: b))) (T.put (some (.loop .ready none σ m ps.toList asg body d)) l h) (P.succ l)) fun r => Prod.rec (fun _ hn => Prod.rec (fun h n =>
      on (T.get l h) (Blk.onLoop fun st pend σ' m' ps' a' b' d' => rangeX.notBusy st (Option.rec (kn σ ds (T.put (some (.loop .exhausted pend σ' m' ps' a' b' d')) l h) n) (fun x => kx x σ ds (T.put (some (.loop .exhausted pend σ' m' ps' a' b' d')) l h) n) pend))) hn) r) (fun _ => none) gv = some r) :
    ∃ (dd : Deferred) (w₁' : World) (f : FuncId) (args : Array Value) (w₂ : World),
      (resolve (F m τ dsr).eval (rangeCall go w.heap.size) 0).run Pr w1 = .ok dd w₁' ∧
      (∀ f', Target.leads Pr w₁' dd.target dd.args = some f' → (Fw rr).fn f') ∧
      (invoke dd.target dd.args).run Pr w₁' = .ok (.enter f args) w₂ ∧
      ((Fw rr).depth.isSome = true → 1 ≤ 0) ∧
      CallsIn (Fw rr) (0 - 1) Pr f args w₂ (rangePost (Fw rr) 0 Pr w.heap.size (PQ w0 ρ0 m r kn kx) (F m τ dsr)) := by
  obtain ⟨h1, h2, h3, h4, h5, h6, h7, h8⟩ := hrec
  rw [onFn_some] at e
  rcases e with ⟨f, a, b, rfl, e⟩ | ⟨_, _, e⟩
  case inr => cases e
  simp only [Rv] at hg
  obtain ⟨a', b', hg, ha, hb⟩ := hg
  have hfree : ρ l = none := by
    cases hn : ρ l with
    | none => rfl
    | some L => have := (H.new l L hn).2.2; omega
  have H1 : Rh w0 (ρ.put l ⟨w.heap.size, 0, 0, 0⟩) (T.put (some (.loop .ready none σ m ps.toList asg body d)) l h) l.succ w1 :=
    H.grow hal (.inr rfl) hfree (by rw [P.num_succ]; omega) (by rw [P.num_succ]; omega) rfl
      ⟨rec, rfl, h1, h2, by rw [h4], h5, h6, by rw [h3]; simp [mk], fun t v e => by
        obtain ⟨q1, q2⟩ := hf.get t v e
        exact ⟨τ t, by rw [h3, mk_get, if_pos q1], q2.mono (Ren.le_put hfree)⟩, D, Ren.le_put hfree _ _ h7, h8⟩
  have hle1 := Ren.le_put (L := ⟨w.heap.size, 0, 0, 0⟩) hfree
  rw [on_some] at e
  obtain ⟨fc, hfc, e⟩ := e
  rw [on_some] at e
  obtain ⟨⟨v, h', n'⟩, e1, e2⟩ := e
  have hargs : Rvs (ρ.put l ⟨w.heap.size, 0, 0, 0⟩) (appL a (.yield l :: b)) (a' ++ #[Value.func (.yield w.heap.size) #[] #[]] ++ b').toList := by
    rw [appL_eq]
    simp only [Array.toList_append, List.append_assoc]
    refine (ha.mono hle1).append ?_
    show Rvs _ (.yield l :: b) (.func (.yield w.heap.size) #[] #[] :: b'.toList)
    simp only [Rvs, Rv]
    exact ⟨_, _, rfl, ⟨_, Ren.put_same, rfl⟩, hb.mono hle1⟩
  rcases hr.call f _ _ _ _ e1 w0 _ w1 _ H1 hargs with ⟨hcf, hcall⟩ | hx
  case inr => rw [hx.1] at hfc; cases hfc
  refine ⟨{ target := .fn (.func f) b', args := a' ++ #[.func (.yield w.heap.size) #[] #[]] }, w1, f, _, w1, ?_, fun _ _ => Fw_fn rr _, ?_, Fw_depth rr, (callsIn_fw (hcall.mono ?_))⟩
  · rw [F_eval]
    have hc : ev m τ (.const (.func (.yield w.heap.size) #[] #[])) = .func (.yield w.heap.size) #[] #[] := rfl
    simp [resolve, rangeCall, hg, Deferred.ofValue, hc]
  · simp only [invoke]; exact hcf _ _
  · rintro e' w3 ⟨x, ρ', rfl, hle2, H3, _⟩
    simp only [on_some, onLoop_some] at e2
    obtain ⟨B, hB, st, pend, σ', m', ps', aa, bb, d', rfl, e2⟩ := e2
    have hL := hle2 _ _ (Ren.put_same (ρ := ρ) (b := l) (L := ⟨w.heap.size, 0, 0, 0⟩))
    obtain ⟨r3, t1, t2, t3, t4, t5, t6, t7, t8, t9⟩ := H3.live l _ _ hB hL
    have hnb : st ≠ .busy ∧ (Option.rec (kn σ ds (T.put (some (.loop .exhausted pend σ' m' ps' aa bb d')) l h') n') (fun x => kx x σ ds (T.put (some (.loop .exhausted pend σ' m' ps' aa bb d')) l h') n') pend : Option β) = some r := by
      cases st <;> first | exact ⟨by simp, e2⟩ | cases e2
    obtain ⟨hnb, e2⟩ := hnb
    have H4 := H3.turn hB hL (w' := w3.putObj w.heap.size (.loop { r3 with state := .exhausted })) ⟨(Array.getElem?_eq_some_iff.1 t1).1, rfl⟩ (B := .loop .exhausted pend σ' m' ps' aa bb d') ⟨_, rfl, rfl, t3, t4, t5, t6, t7, t8, t9⟩
    have hle := hle1.trans hle2
    have hst : St w0 ρ' m σ ds (T.put (some (.loop .exhausted pend σ' m' ps' aa bb d')) l h') n' (F m τ dsr) (w3.putObj w.heap.size (.loop { r3 with state := .exhausted })) := ⟨⟨τ, dsr, rfl, hf.mono hle, All2.mono' hle hd⟩, H4⟩
    have hE := run_endLoop (P := Pr) t1 (by rw [t2]; exact hnb)
    generalize w3.putObj w.heap.size (.loop { r3 with state := .exhausted }) = w4 at hE hst
    rw [t3] at hE
    refine ⟨_, w4, hE, ?_⟩
    cases pend with
    | none => exact ⟨ρ', _, _, _, _, hle0.trans hle, hst, e2⟩
    | some x =>
      cases x with
      | exit i => exact wpIn_exit ⟨ρ', _, _, _, _, hle0.trans hle, hst, e2⟩
      | goto i => exact wpIn_goto ⟨ρ', _, _, _, _, hle0.trans hle, hst, e2⟩
      | ret => exact wpIn_ret ⟨ρ', _, _, _, _, hle0.trans hle, hst, e2⟩
theorem range_sound (g : Operand) (ps : Array Tmp) (asg body : Code) : EXok (β := β) Pr m (rangeX Pr m g ps.toList asg body) (.rangeFunc g ps asg body) := by
  intro run hr rd rr w0 ρ σ ds h n kn kx r a w hrd hs e
  obtain ⟨⟨τ, dsr, rfl, hf, hd⟩, H⟩ := hs
  unfold rangeX at e
  rw [on_some] at e
  obtain ⟨gv, hgv, e⟩ := e
  have hg := evO_sound hf hgv
  refine wpIn_rangeFunc fun fn _ => ?_
  have hfree : ρ n = none := by
    cases hn : ρ n with
    | none => rfl
    | some L => have := (H.new n L hn).2.2; omega
  cases rd with
  | none =>
    cases rr with
    | some _ => exact hrd.elim
    | none =>
      have hal : Al w (w.alloc (.deferred (some []))) (.deferred (some [])) := ⟨rfl⟩
      have H1 : Rh w0 (ρ.put n ⟨w.heap.size, 0, 0, 0⟩) (T.put (some (.dfr true)) n h) n.succ (w.alloc (.deferred (some []))) :=
        H.grow hal (.inr rfl) hfree (by rw [P.num_succ]; omega) (by rw [P.num_succ]; omega) rfl (by simp [Rb])
      have hle1 := Ren.le_put (L := ⟨w.heap.size, 0, 0, 0⟩) hfree
      have hd1 : All2 (Rd (ρ.put n ⟨w.heap.size, 0, 0, 0⟩)) (.mark n :: ds) ({ target := .collected w.heap.size, args := #[] } :: dsr) := .cons ⟨_, Ren.put_same, rfl⟩ (All2.mono' hle1 hd)
      obtain ⟨dd, w1', f, args, w2, q⟩ := range_go (rr := none) (rd := none) hr (go := g) (ps := ps) (asg := asg) (body := body) (w1 := (w.alloc (.deferred (some []))).alloc (.loop { state := .ready, pending := none, fn, tmps := mk m τ, params := ps, assign := asg, body, defers := w.heap.size })) hle1 (hf.mono hle1) hd1 H1 ⟨rfl⟩ ⟨rfl, rfl, rfl, rfl, rfl, rfl, Ren.put_same, rfl⟩ (hg.mono hle1) e
      rw [World.size_alloc] at q
      exact ⟨w.heap.size + 1, [{ target := .collected w.heap.size, args := #[] }], _, dd, w1', f, args, w2, run_enterLoop_outer fn _ _ _ _, q⟩
  | some l =>
    cases rr with
    | none => exact hrd.elim
    | some l0 =>
      obtain ⟨L, hL, rfl⟩ := hrd
      have e : on (T.get l h) (Blk.onLoop fun _ _ _ _ _ _ _ d => _) = some r := e
      simp only [on_some, onLoop_some] at e
      obtain ⟨B, hB, st, pend, σ0, m0, ps0, a0, b0, d, rfl, e⟩ := e
      obtain ⟨r0, t1, t2, t3, t4, t5, t6, t7, t8, D, t9, t10⟩ := H.live l _ L hB hL
      obtain ⟨dd, w1', f, args, w2, q⟩ := range_go (rr := some L.c) (rd := some l) hr (go := g) (ps := ps) (asg := asg) (body := body) (w1 := w.alloc (.loop { state := .ready, pending := none, fn, tmps := mk m τ, params := ps, assign := asg, body, defers := r0.defers })) (.refl _) hf hd H ⟨rfl⟩ ⟨rfl, rfl, rfl, rfl, rfl, rfl, t9, t10⟩ hg e
      exact ⟨w.heap.size, [], _, dd, w1', f, args, w2, run_enterLoop_inner' t1 fn _ _ _ _, q⟩
end
section
variable {Pr : Program}
/-- functions met by contracts of their own -/
def HookOK (Pr : Program) (hk : Hooks) : Prop := ∀ f g, hk f = some g → ∀ as h n res, g as h n = some res → ∀ w0 ρ w args, Rh w0 ρ h n w → Rvs ρ as args.toList → CallOK Pr f args w (RQ w0 ρ res)
/-- functions without a body -/
def ExtOK (Pr : Program) : Prop := ∀ f fn, Pr.funcs[f]? = some fn → ∀ as h n res, extX fn.name as h n = some res → enters Pr f = none → ∀ w0 ρ w args, Rh w0 ρ h n w → Rvs ρ as args.toList → CallOK Pr f args w (RQ w0 ρ res)
theorem run_sound {hk : Hooks} (hhk : HookOK Pr hk) (hcode : CodeOK Pr) (hext : ExtOK Pr) : ∀ d, RunOK Pr (runX Pr hk d)
  | 0 => ⟨fun f as h n res e => (by cases e), fun f as h n res e => (by cases e), fun l as h n res e => (by cases e)⟩
  | d + 1 => by
    have ih := run_sound hhk hcode hext d
    refine ⟨fun f as h n res e w0 ρ w args H hv => ?_, fun f as h n res e w0 ρ w args H hv => ?_, fun l as h n res e w0 ρ w args L H hv hL => round_sound hcode ih e H hv hL⟩
    · have e : callF Pr hk f (runX Pr hk d) as h n = some res := e
      unfold callF at e
      cases hkf : hk f with
      | some g => rw [hkf] at e; exact hhk f g hkf as h n res e w0 ρ w args H hv
      | none =>
      rw [hkf] at e
      cases hfc : enters Pr f with
      | some fc =>
        rw [hfc] at e
        exact .inl ⟨(enters_spec hfc).2.2, call_sound hcode ih hfc H hv e⟩
      | none =>
        rw [hfc] at e
        cases hf : Pr.funcs[f]? with
        | none => rw [hf] at e; cases e
        | some fn => rw [hf] at e; exact hext f fn hf as h n res e hfc w0 ρ w args H hv
    · have e : dcallF Pr f (runX Pr hk d) as h n = some res := e
      unfold dcallF at e
      cases hfc : enters Pr f with
      | some fc =>
        rw [hfc] at e
        exact ⟨(enters_spec hfc).2.2, fun u => dcall_sound hcode ih hfc H hv e u⟩
      | none => rw [hfc] at e; cases e
end
end Go.Lk
