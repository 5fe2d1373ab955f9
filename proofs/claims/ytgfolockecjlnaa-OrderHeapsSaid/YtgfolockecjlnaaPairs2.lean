/- Two pairs of heaps beside each other, and what a step with one of them leaves of the other. -/
import Derived.Test.YtgfolockecjlnaaDoes
import Derived.Test.YtgfolockecjlnaaRows1
namespace Go.Eng
open Go.RowKit
theorem regionM1 {P : Program} {Q : Exit → Act → World → Prop} {id : Nat} {l : List Oper} {a : Act} {w : World} (T : Nat → Prop) (L qs : List Nat) (s : Sched) (hm : P.follows .mixedOrders = true) (hfit : s.fits l.toArray L qs = true)
    (h : ∀ w2, Ext w w2 → w2.heap.size = w.heap.size → wpN P l.toArray (NoPanic Q) (fun w' => Mod T w2 w') L qs s a w2) : (Code.region id l.toArray true).wp P Q a w :=
  regionD (fun w' => Mod T w.drew w') L qs s hm hfit (Mod.refl _ _) (h w.drew (Below.refl _ _).drew rfl)
theorem x_remE {P : Program} {n : Nat} {σ : Nat → Value} {w : World} {ty t t' : TypeId} {x y : Operand} {a b c : Int} (hx : ev n σ x = .int .i64 a) (hy : ev n σ y = .int .i64 b) (hb : b ≠ 0) (e : a.tmod b = c) : Ex P (ev n σ) w (.binOp .rem t x y t') ty (.int .i64 c) := e ▸ x_rem hx hy hb
theorem tm_lo (a : Int) : -2 < Int.tmod a 2 := Int.lt_tmod_of_pos a (by decide)
theorem tm_hi (a : Int) : Int.tmod a 2 < 2 := Int.tmod_lt_of_pos a (by decide)
theorem tm_two (a : Int) : ∃ n : Nat, Int.tmod (Int.tmod a 2 + 2) 2 = ((n : Nat) : Int) ∧ n < 2 := by
  have h1 := tm_lo a
  have h0 : 0 ≤ Int.tmod (Int.tmod a 2 + 2) 2 := Int.tmod_nonneg 2 (by omega)
  have h2 := tm_hi (Int.tmod a 2 + 2)
  exact ⟨(Int.tmod (Int.tmod a 2 + 2) 2).toNat, (Int.toNat_of_nonneg h0).symm, by omega⟩
end Go.Eng
namespace Go.Proofs.Ytgfolockecjlnaa
open Go.RowKit Go.Eng Go.OrdPure Go.HeapPure
def enP (b : Nat) : List Value := [.pointer (some ⟨b, 0, none⟩)]
theorem enP_len (b : Nat) : (enP b).length = 1 := rfl
abbrev O4 := Int × Int × Int × Int
def enO (x : O4) : List Value := [.int .i64 x.1, .int .i64 x.2.1, .int .i64 x.2.2.1, .int .i64 x.2.2.2]
theorem enO_len (x : O4) : (enO x).length = 4 := rfl
def Pairs (h : Array Obj) (lo : Nat) (hbs rbs : List Nat) (Xs : List PS) : Prop := Xs.length = 2 ∧ (∀ n, n < 2 → PairR h lo (el hbs n) (el rbs n) (el Xs n)) ∧ ∀ n m, n < 2 → m < 2 → n ≠ m → ∀ k, foot (el hbs n) (el rbs n) (el Xs n) k → ¬ foot (el hbs m) (el rbs m) (el Xs m) k
section
variable {w w' : World} {lo : Nat} {hbs rbs : List Nat} {Xs : List PS} {X' : PS} {n : Nat}
theorem Pairs.ext (hp : Pairs w.heap lo hbs rbs Xs) (h : Ext w w') : Pairs w'.heap lo hbs rbs Xs := ⟨hp.1, fun n hn => (hp.2.1 n hn).ext h, hp.2.2⟩
theorem Pairs.does (hp : Pairs w.heap lo hbs rbs Xs) (hn : n < 2) (h1 : PairR w'.heap lo (el hbs n) (el rbs n) X') (hM : Mod (foot (el hbs n) (el rbs n) (el Xs n)) w w') (hf : ∀ k, foot (el hbs n) (el rbs n) X' k → foot (el hbs n) (el rbs n) (el Xs n) k ∨ w.heap.size ≤ k) : Pairs w'.heap lo hbs rbs (Xs.set n X') := by
  have hl := hp.1
  have key : ∀ m, m < 2 → m ≠ n → ∀ k, foot (el hbs m) (el rbs m) (el Xs m) k → ¬ foot (el hbs n) (el rbs n) X' k := fun m hm hmn k hk hk' => by
    rcases hf k hk' with h | h
    · exact hp.2.2 m n hm hn hmn k hk h
    · have := ((hp.2.1 m hm).lt hk).2; omega
  refine ⟨by rw [List.length_set]; exact hl, fun m hm => ?_, fun i j hi hj hij k hk hk' => ?_⟩
  · by_cases e : n = m
    · subst e; rw [el_set_same (by omega)]; exact h1
    · rw [el_set_ne e]; exact (hp.2.1 m hm).mod hM fun k hk hk' => hp.2.2 m n hm hn (Ne.symm e) k hk hk'
  · by_cases e1 : n = i
    · subst e1
      rw [el_set_same (by omega)] at hk
      rw [el_set_ne hij] at hk'
      exact key j hj (Ne.symm hij) k hk' hk
    · rw [el_set_ne e1] at hk
      by_cases e2 : n = j
      · subst e2
        rw [el_set_same (by omega)] at hk'
        exact key i hi hij k hk hk'
      · rw [el_set_ne e2] at hk'
        exact hp.2.2 i j hi hj hij k hk hk'
theorem PairR.neOB {h : Array Obj} {hb rb : Nat} {X : PS} {lo' : Nat} {T : TypeId} {k b c : Nat} {cs : List Value} (hr : PairR h lo hb rb X) (ho : OB h lo' T k b c cs) (h1 : 57 ≠ T) (h2 : 78 ≠ T) (h3 : 45 ≠ T) (h4 : 31 ≠ T) : ¬ foot hb rb X b := by
  obtain ⟨R, hB, _⟩ := ho.blk
  rintro (e | e | e | e)
  · exact (hr.heap.blk.neB hB h1) e.symm
  · exact hr.heap.own.neOB ho h2 e
  · exact (hr.ref.neB hB h3) e.symm
  · exact hr.own.neOB ho h4 e
theorem Pairs.new {b0 b1 r0 r1 : Nat} (h0 : HeapR w.heap lo 57 78 3 (enE enT) b0 (.func (.func 20) #[] #[]) (.slice none 0 0) ([] : List ((Int × Int) × Nat)) 0) (h1 : HeapR w.heap lo 57 78 3 (enE enT) b1 (.func (.func 20) #[] #[]) (.slice none 0 0) ([] : List ((Int × Int) × Nat)) 0)
    (hB0 : Blk w.heap r0 [.slice none 0 0] 45) (hB1 : Blk w.heap r1 [.slice none 0 0] 45) (hb : b0 ≠ b1) (hr : r0 ≠ r1) (hl0 : lo ≤ r0) (hl1 : lo ≤ r1) : Pairs w.heap lo [b0, b1] [r0, r1] [⟨.slice none 0 0, [], 0, .slice none 0 0, []⟩, ⟨.slice none 0 0, [], 0, .slice none 0 0, []⟩] := by
  have hp : HP (ah byc) ([] : List ((Int × Int) × Nat)) := fun i h1 h2 => by simp at h2
  refine ⟨rfl, fun n hn => ?_, fun n m hn hm hnm k hk hk' => ?_⟩
  · rcases (by omega : n = 0 ∨ n = 1) with rfl | rfl
    · exact ⟨h0, hp, hl0, hB0, Own.nil _ _ _ _, Mt.nil⟩
    · exact ⟨h1, hp, hl1, hB1, Own.nil _ _ _ _, Mt.nil⟩
  · have e01 : b0 ≠ r1 := h0.blk.neB hB1 (by decide)
    have e10 : b1 ≠ r0 := h1.blk.neB hB0 (by decide)
    have f1 : ∀ k, foot b0 r0 ⟨.slice none 0 0, [], 0, .slice none 0 0, []⟩ k → k = b0 ∨ k = r0 := fun k h => by
      rcases h with h | h | h | h
      · exact .inl h
      · simp [Value.ownBlock] at h
      · exact .inr h
      · simp [Value.ownBlock] at h
    have f2 : ∀ k, foot b1 r1 ⟨.slice none 0 0, [], 0, .slice none 0 0, []⟩ k → k = b1 ∨ k = r1 := fun k h => by
      rcases h with h | h | h | h
      · exact .inl h
      · simp [Value.ownBlock] at h
      · exact .inr h
      · simp [Value.ownBlock] at h
    rcases (by omega : n = 0 ∧ m = 1 ∨ n = 1 ∧ m = 0) with ⟨rfl, rfl⟩ | ⟨rfl, rfl⟩
    · rcases f1 k hk with h | h <;> rcases f2 k hk' with h' | h' <;> omega
    · rcases f2 k hk with h | h <;> rcases f1 k hk' with h' | h' <;> omega
/-- no more than i things have come in -/
def Few (Xs : List PS) (i : Nat) : Prop := ∀ n, n < 2 → (el Xs n).nx ≤ i ∧ (el Xs n).L.length ≤ i
theorem Few.set {i j : Nat} (h : Few Xs i) (hl : Xs.length = 2) (hn : n < 2) (h1 : X'.nx ≤ j) (h2 : X'.L.length ≤ j) (hij : i ≤ j) : Few (Xs.set n X') j := fun m hm => by
  by_cases e : n = m
  · subst e; rw [el_set_same (by omega)]; exact ⟨h1, h2⟩
  · rw [el_set_ne e]; have := h m hm; omega
theorem popz {es : List ((Int × Int) × Nat)} (hp : HP (ah c0) es) (h : es.Perm [((((2 : Nat) : Int), ((1 : Nat) : Int)), 0), ((((1 : Nat) : Int), ((2 : Nat) : Int)), 1)]) : (el es 0).1 = (((2 : Nat) : Int), ((1 : Nat) : Int)) := by
  obtain ⟨h1, h2⟩ := heap_min (ah_swo c0_law) hp h (by decide)
  simp only [List.mem_cons, List.not_mem_nil, or_false] at h1
  rcases h1 with h1 | h1
  · rw [h1]
  · have h3 := h2 ((((2 : Nat) : Int), ((1 : Nat) : Int)), 0) (by simp)
    rw [h1] at h3
    exact absurd (.inr ⟨rfl, by decide⟩) h3
theorem HeapR.weak {α : Type} {h : Array Obj} {lo lo' TH TE kE : Nat} {encE : α × Nat → List Value} {b : Nat} {g v : Value} {es : List (α × Nat)} {nx : Nat} (hr : HeapR h lo TH TE kE encE b g v es nx) (hl : lo' ≤ lo) : HeapR h lo' TH TE kE encE b g v es nx := ⟨Nat.le_trans hl hr.ge, hr.blk, hr.own.weak hl, hr.ne⟩
end
end Go.Proofs.Ytgfolockecjlnaa
